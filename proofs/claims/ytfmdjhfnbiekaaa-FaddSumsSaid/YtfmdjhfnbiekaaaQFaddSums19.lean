/- Contracts of Go functions: each call answers what the Lean function of its name answers. Written by a program of this session (vprint.py) round the print of the kit. -/
import Derived.Test.YtfmdjhfnbiekaaaQFaddSums12
import Derived.Test.YtfmdjhfnbiekaaaQFaddSums14
import Derived.Test.YtfmdjhfnbiekaaaQFaddSums16
import Derived.Test.YtfmdjhfnbiekaaaQFaddSums17
import Derived.Test.YtfmdjhfnbiekaaaQFaddSums18
namespace Go.Proofs.Ytfmdjhfnbiekaaa.PA
open Go.RowKit Go.Proofs.YtfmdjhfnbiekaaaW.PrintWords Go.Proofs.YtfmdjhfnbiekaaaW.PrintLast Go.Proofs.YtfmdjhfnbiekaaaW.PrintMore
attribute [local go_sem] max2_int min2_int max_two min_two max_three min_three max_four min_four
set_option linter.unusedVariables false
set_option linter.unusedSimpArgs false
attribute [local go_sem] fld24_0 fld24_1 fld136_1
mutual
def nat_Sub.l0 : Nat → List Int → List Int → List Int → Int → Int → Int → Option (List Int)
  | 0, _, _, _, _, _, _ => none
  | k + 1, x0, x1, x5, x6, x18, x19 => if x19 < x18 then (if 0 ≤ x19 then (if x19 < (x0.length : Int) then ((nat_at.f x1 x19).bind fun t239 => ((bits_Sub64.f (rd x0 x19) t239 x6).bind fun bt240 => (if x19 < (x5.length : Int) then (nat_Sub.l0 k x0 x1 (x5.set (x19 : Int).toNat bt240.1) bt240.2 x18 (wrap64 (x19 + 1))) else (none)))) else (none)) else (none)) else ((nat_size.f k x5).bind fun t243 => (if 0 ≤ t243 then (if t243 ≤ (x5.length : Int) then (some (x5.take (t243 : Int).toNat)) else (none)) else (none)))
def nat_Sub.l1 : Nat → List Int → List Int → List Int → Int → Int → Int → Option (List Int)
  | 0, _, _, _, _, _, _ => none
  | k + 1, x0, x1, x5, x6, x18, x19 => if x19 < x18 then (if 0 ≤ x19 then (if x19 < (x0.length : Int) then ((nat_at.f x1 x19).bind fun t251 => ((bits_Sub64.f (rd x0 x19) t251 x6).bind fun bt252 => (if x19 < (x5.length : Int) then (nat_Sub.l1 k x0 x1 (x5.set (x19 : Int).toNat bt252.1) bt252.2 x18 (wrap64 (x19 + 1))) else (none)))) else (none)) else (none)) else ((nat_size.f k x5).bind fun t255 => (if 0 ≤ t255 then (if t255 ≤ (x5.length : Int) then (some (x5.take (t255 : Int).toNat)) else (none)) else (none)))
end
def nat_Sub.f (k : Nat) (l0 : List Int) (l1 : List Int) : Option (List Int) := (nat_Cmp.f k l0 l1).bind fun t234 => (if t234 < 0 then (if 0 ≤ (l1.length : Int) then (if ((l1.length : Int) : Int).toNat ≤ 35184372088832 then ((some (List.replicate ((l1.length : Int) : Int).toNat 0 : List Int)).bind fun y235 => (nat_Sub.l0 k l1 l0 y235 0 (y235.length : Int) 0)) else (none)) else (none)) else (if 0 ≤ (l0.length : Int) then (if ((l0.length : Int) : Int).toNat ≤ 35184372088832 then ((some (List.replicate ((l0.length : Int) : Int).toNat 0 : List Int)).bind fun y247 => (nat_Sub.l1 k l0 l1 y247 0 (y247.length : Int) 0)) else (none)) else (none)))
end Go.Proofs.Ytfmdjhfnbiekaaa.PA
