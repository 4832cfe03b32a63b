/- Contracts of Go functions: each call answers what the Lean function of its name answers. Written by a program of this session (vprint.py) round the print of the kit. -/
import Derived.Test.YtkjhjlnjkohlbaaZRatioOf49
namespace Go.Proofs.Ytkjhjlnjkohlbaa.PR
open Go.RowKit Go.Proofs.YtkjhjlnjkohlbaaW.PrintWords Go.Proofs.YtkjhjlnjkohlbaaW.PrintLast Go.Proofs.YtkjhjlnjkohlbaaW.PrintMore
attribute [local go_sem] max2_int min2_int max_two min_two max_three min_three max_four min_four
set_option linter.unusedVariables false
set_option linter.unusedSimpArgs false
attribute [local go_sem] fld26_0 fld26_1
def ratio_times.f (k : Nat) (a0_0 : Bool) (l0_1 : List Int) (l1 : List Int) : Option (Bool × List Int) := (whole_Mul.f k a0_0 l0_1 false l1).bind fun bt448 => (some (bt448.1, bt448.2))
def ratio_Add.f (k : Nat) (a0_0 : Bool) (l0_1 : List Int) (l0_2 : List Int) (a1_0 : Bool) (l1_1 : List Int) (l1_2 : List Int) : Option (Bool × List Int × List Int × Int) := (ratio_checked.f k a0_0 l0_1 l0_2 a1_0 l1_1 l1_2).bind fun t455 => (if t455 = 0 then ((ratio_times.f k a0_0 l0_1 l1_2).bind fun bt456 => ((ratio_times.f k a1_0 l1_1 l0_2).bind fun bt460 => ((whole_Add.f k bt456.1 bt456.2 bt460.1 bt460.2).bind fun bt464 => ((nat_Mul.f k l0_2 l1_2).bind fun t468 => ((ratio_told.f k bt464.1 bt464.2 t468).bind fun bt471 => (some (bt471.1, bt471.2.1, bt471.2.2, 0))))))) else (some (false, ([] : List Int), ([] : List Int), t455)))
def ratio_Mul.f (k : Nat) (a0_0 : Bool) (l0_1 : List Int) (l0_2 : List Int) (a1_0 : Bool) (l1_1 : List Int) (l1_2 : List Int) : Option (Bool × List Int × List Int × Int) := (ratio_checked.f k a0_0 l0_1 l0_2 a1_0 l1_1 l1_2).bind fun t496 => (if t496 = 0 then ((whole_Mul.f k a0_0 l0_1 a1_0 l1_1).bind fun bt497 => ((nat_Mul.f k l0_2 l1_2).bind fun t501 => ((ratio_told.f k bt497.1 bt497.2 t501).bind fun bt504 => (some (bt504.1, bt504.2.1, bt504.2.2, 0))))) else (some (false, ([] : List Int), ([] : List Int), t496)))
end Go.Proofs.Ytkjhjlnjkohlbaa.PR
