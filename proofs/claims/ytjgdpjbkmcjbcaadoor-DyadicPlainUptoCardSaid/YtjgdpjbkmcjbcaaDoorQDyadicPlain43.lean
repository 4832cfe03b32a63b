/- Contracts of Go functions: each call answers what the Lean function of its name answers. Written by a program of this session (vprint.py) round the print of the kit. -/
import Derived.Test.YtjgdpjbkmcjbcaaDoorQDyadicPlain12
import Derived.Test.YtjgdpjbkmcjbcaaDoorQDyadicPlain22
import Derived.Test.YtjgdpjbkmcjbcaaDoorQDyadicPlain25
import Derived.Test.YtjgdpjbkmcjbcaaDoorQDyadicPlain32
import Derived.Test.YtjgdpjbkmcjbcaaDoorQDyadicPlain42
import Derived.Test.YtjgdpjbkmcjbcaaDoorQDyadicPlain24
import Derived.Test.YtjgdpjbkmcjbcaaDoorQDyadicPlain13
namespace Go.Proofs.YtjgdpjbkmcjbcaaDoor.PG
open Go.RowKit Go.Proofs.YtjgdpjbkmcjbcaaDoorW.PrintWords Go.Proofs.YtjgdpjbkmcjbcaaDoorW.PrintLast Go.Proofs.YtjgdpjbkmcjbcaaDoorW.PrintMore
attribute [local go_sem] max2_int min2_int max_two min_two max_three min_three max_four min_four
set_option linter.unusedVariables false
set_option linter.unusedSimpArgs false
attribute [local go_sem] fld139_1
def whole_Add.f (k : Nat) (a0_0 : Bool) (l0_1 : List Int) (a1_0 : Bool) (l1_1 : List Int) : Option (Bool × List Int) := if (a0_0 == a1_0) = true then ((nat_Add.f k l0_1 l1_1).bind fun t667 => ((whole_made.f k a0_0 t667).bind fun bt670 => (some (bt670.1, bt670.2)))) else ((nat_Cmp.f k l0_1 l1_1).bind fun t674 => ((api_Whole.f (decide (t674 < 0)) a1_0 l1_1 a0_0 l0_1).bind fun bt675 => ((nat_Sub.f k l0_1 l1_1).bind fun t680 => ((whole_made.f k bt675.1 t680).bind fun bt683 => (some (bt683.1, bt683.2))))))
end Go.Proofs.YtjgdpjbkmcjbcaaDoor.PG
