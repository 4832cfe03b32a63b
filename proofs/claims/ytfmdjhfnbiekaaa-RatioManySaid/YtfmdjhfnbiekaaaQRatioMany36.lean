/- Contracts of Go functions: each call answers what the Lean function of its name answers. Written by a program of this session (vprint.py) round the print of the kit. -/
import Derived.Test.YtfmdjhfnbiekaaaQRatioMany12
import Derived.Test.YtfmdjhfnbiekaaaQRatioMany20
import Derived.Test.YtfmdjhfnbiekaaaQRatioMany24
import Derived.Test.YtfmdjhfnbiekaaaQRatioMany35
import Derived.Test.YtfmdjhfnbiekaaaQRatioMany23
namespace Go.Proofs.Ytfmdjhfnbiekaaa.PB
open Go.RowKit Go.Proofs.YtfmdjhfnbiekaaaW.PrintWords Go.Proofs.YtfmdjhfnbiekaaaW.PrintLast Go.Proofs.YtfmdjhfnbiekaaaW.PrintMore
attribute [local go_sem] max2_int min2_int max_two min_two max_three min_three max_four min_four
set_option linter.unusedVariables false
set_option linter.unusedSimpArgs false
attribute [local go_sem] fld24_0 fld24_1
def whole_Add.f (k : Nat) (a0_0 : Bool) (l0_1 : List Int) (a1_0 : Bool) (l1_1 : List Int) : Option (Bool × List Int) := if (a0_0 == a1_0) = true then ((nat_Add.f k l0_1 l1_1).bind fun t484 => ((whole_made.f k a0_0 t484).bind fun bt487 => (some (bt487.1, bt487.2)))) else ((nat_Cmp.f k l0_1 l1_1).bind fun t491 => ((api_Whole.f (decide (t491 < 0)) a1_0 l1_1 a0_0 l0_1).bind fun bt492 => ((nat_Sub.f k l0_1 l1_1).bind fun t497 => ((whole_made.f k bt492.1 t497).bind fun bt500 => (some (bt500.1, bt500.2))))))
end Go.Proofs.Ytfmdjhfnbiekaaa.PB
