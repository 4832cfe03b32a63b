/- Contracts of Go functions: each call answers what the Lean function of its name answers. Written by a program of this session (vprint.py) round the print of the kit. -/
import Derived.Test.YtjgdpjbkmcjbcaaDoorQDyadicPlain12
import Derived.Test.YtjgdpjbkmcjbcaaDoorQDyadicPlain30
import Derived.Test.YtjgdpjbkmcjbcaaDoorQDyadicPlain31
import Derived.Test.YtjgdpjbkmcjbcaaDoorQDyadicPlain32
import Derived.Test.YtjgdpjbkmcjbcaaDoorQDyadicPlain41
import Derived.Test.YtjgdpjbkmcjbcaaDoorQDyadicPlain29
import Derived.Test.YtjgdpjbkmcjbcaaDoorQDyadicPlain13
import Derived.Test.YtjgdpjbkmcjbcaaDoorQDyadicPlain43
namespace Go.Proofs.YtjgdpjbkmcjbcaaDoor.PG
open Go.RowKit Go.Proofs.YtjgdpjbkmcjbcaaDoorW.PrintWords Go.Proofs.YtjgdpjbkmcjbcaaDoorW.PrintLast Go.Proofs.YtjgdpjbkmcjbcaaDoorW.PrintMore
attribute [local go_sem] max2_int min2_int max_two min_two max_three min_three max_four min_four
set_option linter.unusedVariables false
set_option linter.unusedSimpArgs false
attribute [local go_sem] fld139_1
def whole_Neg.f (k : Nat) (a0_0 : Bool) (l0_1 : List Int) : Option (Bool × List Int) := (whole_made.f k (!a0_0) l0_1).bind fun bt689 => (some (bt689.1, bt689.2))
def whole_Sub.f (k : Nat) (a0_0 : Bool) (l0_1 : List Int) (a1_0 : Bool) (l1_1 : List Int) : Option (Bool × List Int) := (whole_Neg.f k a1_0 l1_1).bind fun bt696 => ((whole_Add.f k a0_0 l0_1 bt696.1 bt696.2).bind fun bt700 => (some (bt700.1, bt700.2)))
def whole_Cmp.f (k : Nat) (a0_0 : Bool) (l0_1 : List Int) (a1_0 : Bool) (l1_1 : List Int) : Option (Int) := (whole_Sub.f k a0_0 l0_1 a1_0 l1_1).bind fun bt706 => ((whole_Sign.f k bt706.1 bt706.2).bind fun t710 => (some t710))
end Go.Proofs.YtjgdpjbkmcjbcaaDoor.PG
