/- Contracts of Go functions: each call answers what the Lean function of its name answers. Written by a program of this session (vprint.py) round the print of the kit. -/
import Derived.Test.YtmhbjemfcgkhaaaQNatOwn13
import Derived.Test.YtmhbjemfcgkhaaaQNatOwn14
import Derived.Test.YtmhbjemfcgkhaaaQNatOwn15
import Derived.Test.YtmhbjemfcgkhaaaQNatOwn20
import Derived.Test.YtmhbjemfcgkhaaaQNatOwn21
import Derived.Test.YtmhbjemfcgkhaaaQNatOwn22
import Derived.Test.YtmhbjemfcgkhaaaQNatOwn24
import Derived.Test.YtmhbjemfcgkhaaaQNatOwn27
import Derived.Test.YtmhbjemfcgkhaaaQNatOwn28
import Derived.Test.YtmhbjemfcgkhaaaQNatOwn33
import Derived.Test.YtmhbjemfcgkhaaaQNatOwn34
import Derived.Test.YtmhbjemfcgkhaaaQNatOwn19
import Derived.Test.YtmhbjemfcgkhaaaQNatOwn26
namespace Go.Proofs.Ytmhbjemfcgkhaaa.PA
open Go.RowKit Go.Proofs.YtmhbjemfcgkhaaaW.PrintWords Go.Proofs.YtmhbjemfcgkhaaaW.PrintLast Go.Proofs.YtmhbjemfcgkhaaaW.PrintMore
attribute [local go_sem] max2_int min2_int max_two min_two max_three min_three max_four min_four
set_option linter.unusedVariables false
set_option linter.unusedSimpArgs false
def nat_Bits.f (k : Nat) (l0 : List Int) : Option (Int) := (nat_size.f k l0).bind fun t360 => (if t360 = 0 then (some 0) else (if 0 ≤ (wrap64 (t360 - 1)) then (if (wrap64 (t360 - 1)) < (l0.length : Int) then ((bits_Len64.f (rd l0 (wrap64 (t360 - 1)))).bind fun t362 => (some (wrap64 ((wrap64 (64 * (wrap64 (t360 - 1)))) + t362)))) else (none)) else (none)))
def vernierref01_Bits.l0 : Nat → Int → Int → Option (Int)
  | 0, _, _ => none
  | k + 1, x3, x4 => if x4 > 0 then (vernierref01_Bits.l0 k (wrap64 (x3 + 1)) (wrap64 (Int.tdiv x4 2))) else (some x3)
def vernierref01_Bits.f (k : Nat) (l0 : List Int) : Option (Int) := if (l0.length : Int) = 0 then (some 0) else (if 0 ≤ (wrap64 ((l0.length : Int) - 1)) then (if (wrap64 ((l0.length : Int) - 1)) < (l0.length : Int) then (vernierref01_Bits.l0 k (wrap64 (16 * (wrap64 ((l0.length : Int) - 1)))) (rd l0 (wrap64 ((l0.length : Int) - 1)))) else (none)) else (none))
end Go.Proofs.Ytmhbjemfcgkhaaa.PA
