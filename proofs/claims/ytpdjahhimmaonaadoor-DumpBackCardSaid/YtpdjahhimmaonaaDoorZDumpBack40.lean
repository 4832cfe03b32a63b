/- Parts of a proof. -/
import Derived.Test.YtpdjahhimmaonaaDoorZDumpBack38
import Derived.Test.YtpdjahhimmaonaaDoorZDumpBack39
import Derived.Sort.QuietThIn
import Derived.Sort.QuietTacIn
import Derived.Sort.BigQuietIn
import Derived.OrdersIn
import Derived.RangeFuncNested
import Derived.RangeFuncBound
import Derived.RangeFuncCalls
import Derived.RangeFuncLeaves
import Derived.Shelf.Abstract
import Derived.Shelf.RegionOpen
import Derived.OwnWalkIn
import Derived.TacticsInMore
import Derived.LoopNIn
import Derived.LoopIn
import Derived.Lib.Hide
import Derived.Outline
section
namespace Go.Proofs.YtpdjahhimmaonaaDoor.PE
open Go.RowKit Go.Proofs.YtpdjahhimmaonaaDoorW.PrintWords Go.Proofs.YtpdjahhimmaonaaDoorW.PrintLast Go.Proofs.YtpdjahhimmaonaaDoorW.PrintMore
attribute [local go_sem] max2_int min2_int max_two min_two max_three min_three max_four min_four
set_option linter.unusedVariables false
set_option linter.unusedSimpArgs false
attribute [local go_sem] fld138_1
mutual
def nat_Sub.l0 : Nat → List Int → List Int → List Int → Int → Int → Int → Option (List Int)
  | 0, _, _, _, _, _, _ => none
  | k + 1, x0, x1, x5, x6, x18, x19 => if x19 < x18 then (if 0 ≤ x19 then (if x19 < (x0.length : Int) then ((nat_at.f x1 x19).bind fun t407 => ((bits_Sub64.f (rd x0 x19) t407 x6).bind fun bt408 => (if x19 < (x5.length : Int) then (nat_Sub.l0 k x0 x1 (x5.set (x19 : Int).toNat bt408.1) bt408.2 x18 (wrap64 (x19 + 1))) else (none)))) else (none)) else (none)) else ((nat_size.f k x5).bind fun t411 => (if 0 ≤ t411 then (if t411 ≤ (x5.length : Int) then (some (x5.take (t411 : Int).toNat)) else (none)) else (none)))
def nat_Sub.l1 : Nat → List Int → List Int → List Int → Int → Int → Int → Option (List Int)
  | 0, _, _, _, _, _, _ => none
  | k + 1, x0, x1, x5, x6, x18, x19 => if x19 < x18 then (if 0 ≤ x19 then (if x19 < (x0.length : Int) then ((nat_at.f x1 x19).bind fun t419 => ((bits_Sub64.f (rd x0 x19) t419 x6).bind fun bt420 => (if x19 < (x5.length : Int) then (nat_Sub.l1 k x0 x1 (x5.set (x19 : Int).toNat bt420.1) bt420.2 x18 (wrap64 (x19 + 1))) else (none)))) else (none)) else (none)) else ((nat_size.f k x5).bind fun t423 => (if 0 ≤ t423 then (if t423 ≤ (x5.length : Int) then (some (x5.take (t423 : Int).toNat)) else (none)) else (none)))
end
end Go.Proofs.YtpdjahhimmaonaaDoor.PE
end
section
namespace Go.Proofs.YtpdjahhimmaonaaDoor.PE
open Go.RowKit Go.Proofs.YtpdjahhimmaonaaDoorW.PrintWords Go.Proofs.YtpdjahhimmaonaaDoorW.PrintLast Go.Proofs.YtpdjahhimmaonaaDoorW.PrintMore
attribute [local go_sem] max2_int min2_int max_two min_two max_three min_three max_four min_four
set_option linter.unusedVariables false
set_option linter.unusedSimpArgs false
attribute [local go_sem] fld138_1
def vernierref01_Same.l0 : Nat → List Int → List Int → Int → Option (Bool)
  | 0, _, _, _ => none
  | k + 1, x0, x1, x5 => if x5 < (x0.length : Int) then (if 0 ≤ x5 then (if x5 < (x1.length : Int) then (if (rd x0 x5) = (rd x1 x5) then (vernierref01_Same.l0 k x0 x1 (wrap64 (x5 + 1))) else (some false)) else (none)) else (none)) else (some true)
def vernierref01_Same.f (k : Nat) (l0 : List Int) (l1 : List Int) : Option (Bool) := if (l0.length : Int) = (l1.length : Int) then (vernierref01_Same.l0 k l0 l1 0) else (some false)
end Go.Proofs.YtpdjahhimmaonaaDoor.PE
end
