/- Parts of a proof. -/
import Derived.Lib.Mul64
import Derived.Laws.Bits64b
import Derived.Test.YtjgdpjbkmcjbcaaDoorZFconvScales19
import Derived.Test.YtjgdpjbkmcjbcaaDoorZFconvScales23
import Derived.Lib.Hide
section
namespace Go.Proofs.YtjgdpjbkmcjbcaaDoor.PG
open Go.RowKit Go.Lib Go.Proofs.YtjgdpjbkmcjbcaaDoorW.PrintWords Go.Proofs.YtjgdpjbkmcjbcaaDoorW.PrintLast Go.Proofs.YtjgdpjbkmcjbcaaDoorW.PrintMore
set_option linter.unusedVariables false
set_option linter.unusedSimpArgs false
def bits_Mul64.f (a0 : Int) (a1 : Int) : Option (Int × Int) := if 0 ≤ a0 ∧ a0 < 18446744073709551616 ∧ 0 ≤ a1 ∧ a1 < 18446744073709551616 then some (a0 * a1 / 18446744073709551616, a0 * a1 % 18446744073709551616) else none
end Go.Proofs.YtjgdpjbkmcjbcaaDoor.PG
end
section
namespace Go.Proofs.YtjgdpjbkmcjbcaaDoor.PG
open Go.RowKit Go.Proofs.YtjgdpjbkmcjbcaaDoorW.PrintWords Go.Proofs.YtjgdpjbkmcjbcaaDoorW.PrintLast Go.Proofs.YtjgdpjbkmcjbcaaDoorW.PrintMore
set_option linter.unusedVariables false
set_option linter.unusedSimpArgs false
def nat_row.go (off : Nat) (x : Int) : List Int → Nat → Int → List Int → Option (List Int)
  | [], i, carry, L => some (L.set (off + i) carry)
  | y :: ys, i, carry, L => (bits_Mul64.f x y).bind fun p => (bits_Add64.f p.2 carry 0).bind fun q => (bits_Add64.f (rd L ((off + i : Nat) : Int)) q.1 0).bind fun r =>
      nat_row.go off x ys (i + 1) (IntKind.u64.wrap (IntKind.u64.wrap (p.1 + q.2) + r.2)) (L.set (off + i) r.1)
def mulGo (l0 : List Int) : List Int → Nat → List Int → Option (List Int)
  | [], _, out => some out
  | x :: xs, i, out => (nat_row.go i x l0 0 0 out).bind fun o => mulGo l0 xs (i + 1) o
def nat_Mul.f (k : Nat) (l0 l1 : List Int) : Option (List Int) :=
  if l0.length + l1.length + 1 ≤ 35184372088832 then (mulGo l0 l1 0 (List.replicate (l0.length + l1.length + 1) 0)).bind fun out => (nat_size.f k out).bind fun n => if 0 ≤ n ∧ n ≤ (out.length : Int) then some (out.take n.toNat) else none else none
end Go.Proofs.YtjgdpjbkmcjbcaaDoor.PG
end
