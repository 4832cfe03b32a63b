/- nat.Cmp answers which of two naturals is greater: by their sizes, else by the highest limb that parts them. -/
import Derived.Test.YtjgdpjbkmcjbcaaDoorQDyadicPlain12
import Derived.Test.YtjgdpjbkmcjbcaaDoorQDyadicPlain14
import Derived.Test.YtjgdpjbkmcjbcaaDoorQDyadicPlain19
import Derived.Sort.QuietThIn
import Derived.Sort.QuietTacIn
import Derived.Sort.BigQuietIn
import Derived.OrdersIn
import Derived.RangeFuncNested
import Derived.RangeFuncBound
import Derived.RangeFuncCalls
import Derived.RangeFuncLeaves
import Derived.Shelf.Abstract
import Derived.Shelf.RegionOpen
import Derived.OwnWalkIn
import Derived.TacticsInMore
import Derived.LoopNIn
import Derived.LoopIn
import Derived.Lib.Hide
import Derived.Outline
namespace Go.Proofs.YtjgdpjbkmcjbcaaDoor.PG
open Go.RowKit Go.Shelf Go.Proofs.YtjgdpjbkmcjbcaaDoorW.PrintWords Go.Proofs.YtjgdpjbkmcjbcaaDoorW.PrintLast Go.Proofs.YtjgdpjbkmcjbcaaDoorW.PrintMore
set_option linter.unusedVariables false
set_option linter.unusedSimpArgs false
attribute [local go_sem] Oper.semAt_some
def cmpDown (l0 l1 : List Int) : Nat → Int
  | 0 => 0
  | i + 1 => if rd l0 i = rd l1 i then cmpDown l0 l1 i else if rd l0 i < rd l1 i then -1 else 1
def nat_Cmp.f (k : Nat) (l0 l1 : List Int) : Option Int :=
  (nat_size.f k l0).bind fun n => (nat_size.f k l1).bind fun m => if 0 ≤ n ∧ n ≤ l0.length ∧ m ≤ l1.length then (if n = m then some (cmpDown l0 l1 n.toNat) else if n < m then some (-1) else some 1) else none
end Go.Proofs.YtjgdpjbkmcjbcaaDoor.PG
