/- Contracts of Go functions: each call answers what the Lean function of its name answers. Written by a program of this session (vprint.py) round the print of the kit. -/
import Derived.Test.YtfmdjhfnbiekaaaQFconvWhole12
import Derived.Test.YtfmdjhfnbiekaaaQFconvWhole13
import Derived.Test.YtfmdjhfnbiekaaaQFconvWhole16
import Derived.Test.YtfmdjhfnbiekaaaQFconvWhole18
import Derived.WalkSpells
import Derived.Lib.SliceRun
import Derived.Test.YtfmdjhfnbiekaaaQFconvWhole21
import Derived.Test.YtfmdjhfnbiekaaaQFconvWhole15
import Derived.Test.YtfmdjhfnbiekaaaQFconvWhole20
import Derived.Laws.MakeOwn
import Derived.Test.YtfmdjhfnbiekaaaQFconvWhole24
import Derived.Test.YtfmdjhfnbiekaaaQFconvWhole25
import Derived.Test.YtfmdjhfnbiekaaaQFconvWhole26
import Derived.Test.YtfmdjhfnbiekaaaQFconvWhole45
namespace Go.Proofs.Ytfmdjhfnbiekaaa.PF
open Go.RowKit Go.Proofs.YtfmdjhfnbiekaaaW.PrintWords Go.Proofs.YtfmdjhfnbiekaaaW.PrintLast Go.Proofs.YtfmdjhfnbiekaaaW.PrintMore
attribute [local go_sem] max2_int min2_int max_two min_two max_three min_three max_four min_four
set_option linter.unusedVariables false
set_option linter.unusedSimpArgs false
attribute [local go_sem] fld136_1
def vernierref01_Bits.l0 : Nat → Int → Int → Option (Int)
  | 0, _, _ => none
  | k + 1, x3, x4 => if x4 > 0 then (vernierref01_Bits.l0 k (wrap64 (x3 + 1)) (wrap64 (Int.tdiv x4 2))) else (some x3)
def vernierref01_Bits.f (k : Nat) (l0 : List Int) : Option (Int) := if (l0.length : Int) = 0 then (some 0) else (if 0 ≤ (wrap64 ((l0.length : Int) - 1)) then (if (wrap64 ((l0.length : Int) - 1)) < (l0.length : Int) then (vernierref01_Bits.l0 k (wrap64 (16 * (wrap64 ((l0.length : Int) - 1)))) (rd l0 (wrap64 ((l0.length : Int) - 1)))) else (none)) else (none))
end Go.Proofs.Ytfmdjhfnbiekaaa.PF
