/- Contracts of Go functions: each call answers what the Lean function of its name answers. Written by a program of this session (vprint.py) round the print of the kit. -/
import Derived.Test.YtjgdpjbkmcjbcaaDoorZFconvScales26
namespace Go.Proofs.YtjgdpjbkmcjbcaaDoor.PG
open Go.RowKit Go.Proofs.YtjgdpjbkmcjbcaaDoorW.PrintWords Go.Proofs.YtjgdpjbkmcjbcaaDoorW.PrintLast Go.Proofs.YtjgdpjbkmcjbcaaDoorW.PrintMore
attribute [local go_sem] max2_int min2_int max_two min_two max_three min_three max_four min_four
set_option linter.unusedVariables false
set_option linter.unusedSimpArgs false
attribute [local go_sem] fld139_1
mutual
def nat_Sub.l0 : Nat → List Int → List Int → List Int → Int → Int → Int → Option (List Int)
  | 0, _, _, _, _, _, _ => none
  | k + 1, x0, x1, x5, x6, x18, x19 => if x19 < x18 then (if 0 ≤ x19 then (if x19 < (x0.length : Int) then ((nat_at.f x1 x19).bind fun t154 => ((bits_Sub64.f (rd x0 x19) t154 x6).bind fun bt155 => (if x19 < (x5.length : Int) then (nat_Sub.l0 k x0 x1 (x5.set (x19 : Int).toNat bt155.1) bt155.2 x18 (wrap64 (x19 + 1))) else (none)))) else (none)) else (none)) else ((nat_size.f k x5).bind fun t158 => (if 0 ≤ t158 then (if t158 ≤ (x5.length : Int) then (some (x5.take (t158 : Int).toNat)) else (none)) else (none)))
def nat_Sub.l1 : Nat → List Int → List Int → List Int → Int → Int → Int → Option (List Int)
  | 0, _, _, _, _, _, _ => none
  | k + 1, x0, x1, x5, x6, x18, x19 => if x19 < x18 then (if 0 ≤ x19 then (if x19 < (x0.length : Int) then ((nat_at.f x1 x19).bind fun t166 => ((bits_Sub64.f (rd x0 x19) t166 x6).bind fun bt167 => (if x19 < (x5.length : Int) then (nat_Sub.l1 k x0 x1 (x5.set (x19 : Int).toNat bt167.1) bt167.2 x18 (wrap64 (x19 + 1))) else (none)))) else (none)) else (none)) else ((nat_size.f k x5).bind fun t170 => (if 0 ≤ t170 then (if t170 ≤ (x5.length : Int) then (some (x5.take (t170 : Int).toNat)) else (none)) else (none)))
end
def nat_Sub.f (k : Nat) (l0 : List Int) (l1 : List Int) : Option (List Int) := (nat_Cmp.f k l0 l1).bind fun t149 => (if t149 < 0 then (if 0 ≤ (l1.length : Int) then (if ((l1.length : Int) : Int).toNat ≤ 35184372088832 then ((some (List.replicate ((l1.length : Int) : Int).toNat 0 : List Int)).bind fun y150 => (nat_Sub.l0 k l1 l0 y150 0 (y150.length : Int) 0)) else (none)) else (none)) else (if 0 ≤ (l0.length : Int) then (if ((l0.length : Int) : Int).toNat ≤ 35184372088832 then ((some (List.replicate ((l0.length : Int) : Int).toNat 0 : List Int)).bind fun y162 => (nat_Sub.l1 k l0 l1 y162 0 (y162.length : Int) 0)) else (none)) else (none)))
end Go.Proofs.YtjgdpjbkmcjbcaaDoor.PG
