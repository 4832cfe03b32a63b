/- Contracts of Go functions: each call answers what the Lean function of its name answers. Written by a program of this session (vprint.py) round the print of the kit. -/
import Derived.Test.YtjgdpjbkmcjbcaaDoorQDyadicPlain12
import Derived.Test.YtjgdpjbkmcjbcaaDoorQDyadicPlain32
import Derived.Test.YtjgdpjbkmcjbcaaDoorQDyadicPlain34
import Derived.Test.YtjgdpjbkmcjbcaaDoorQDyadicPlain40
import Derived.Test.YtjgdpjbkmcjbcaaDoorQDyadicPlain41
import Derived.Test.YtjgdpjbkmcjbcaaDoorQDyadicPlain44
import Derived.Test.YtjgdpjbkmcjbcaaDoorQDyadicPlain26
import Derived.Test.YtjgdpjbkmcjbcaaDoorQDyadicPlain13
namespace Go.Proofs.YtjgdpjbkmcjbcaaDoor.PG
open Go.RowKit Go.Proofs.YtjgdpjbkmcjbcaaDoorW.PrintWords Go.Proofs.YtjgdpjbkmcjbcaaDoorW.PrintLast Go.Proofs.YtjgdpjbkmcjbcaaDoorW.PrintMore
attribute [local go_sem] max2_int min2_int max_two min_two max_three min_three max_four min_four
set_option linter.unusedVariables false
set_option linter.unusedSimpArgs false
attribute [local go_sem] fld139_1
def whole_Mul.f (k : Nat) (a0_0 : Bool) (l0_1 : List Int) (a1_0 : Bool) (l1_1 : List Int) : Option (Bool × List Int) := (nat_Mul.f k l0_1 l1_1).bind fun t812 => ((whole_made.f k (a0_0 != a1_0) t812).bind fun bt815 => (some (bt815.1, bt815.2)))
end Go.Proofs.YtjgdpjbkmcjbcaaDoor.PG
