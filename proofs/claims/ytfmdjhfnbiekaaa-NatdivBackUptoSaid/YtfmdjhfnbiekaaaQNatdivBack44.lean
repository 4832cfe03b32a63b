/- Quotient times divisor, and the rest, is the number; the rest is less than the divisor: for all lists of at most 1048576 words. -/
import Derived.Test.YtfmdjhfnbiekaaaQNatdivBack33
import Derived.Test.YtfmdjhfnbiekaaaQNatdivBack34
import Derived.Test.YtfmdjhfnbiekaaaQNatdivBack40
import Derived.Test.YtfmdjhfnbiekaaaQNatdivBack42
import Derived.Test.YtfmdjhfnbiekaaaQNatdivBack35
import Derived.Test.YtfmdjhfnbiekaaaQNatdivBack36
import Derived.Test.YtfmdjhfnbiekaaaQNatdivBack37
import Derived.Test.YtfmdjhfnbiekaaaQNatdivBack38
import Derived.Test.YtfmdjhfnbiekaaaQNatdivBack41
import Derived.Test.YtfmdjhfnbiekaaaQNatdivBack43
namespace Go.Proofs.Ytfmdjhfnbiekaaa.Pure
open Go.RowKit Go.Proofs.Ytfmdjhfnbiekaaa.PB Go.Proofs.YtfmdjhfnbiekaaaW.PrintWords Go.Proofs.YtfmdjhfnbiekaaaW.PrintLast Go.Proofs.Ytfmdjhfnbiekaaa.Num
set_option linter.unusedVariables false
theorem NatdivBack (l0 : List Int) (l1 : List Int) (y0 : l0.length ≤ 1048576) (w0 : ∀ n ∈ l0, (Lit.int .u64 n).wf = true) (y1 : l1.length ≤ 1048576) (w1 : ∀ n ∈ l1, (Lit.int .u64 n).wf = true) : ∃ k, vernierlaw02_NatdivBack.f k l0 l1 = some true := by
  refine Ev.rounds ?_
  unfold vernierlaw02_NatdivBack.f
  refine Ev.bind alive2_ev (Ev.congr (fun k => if_pos rfl) ?_)
  have n0 := Nm.of_wf (n := 1048576) w0 y0
  have n1 := Nm.of_wf (n := 1048576) w1 y1
  generalize V 18446744073709551616 l0 = v at n0
  generalize V 18446744073709551616 l1 = w at n1
  by_cases h0 : w = 0
  · subst h0
    refine Ev.bind (n0.divmod0 n1 (by omega)) ?_
    refine Ev.congr (fun k => if_neg (by decide)) (Ev.congr (fun k => if_pos rfl) (Ev.bind (n1.bits (by omega)) ?_))
    exact Ev.now _
  · have hw : 0 < w := by have := n1.nonneg; omega
    obtain ⟨e1, nq, nr⟩ := n0.divmod n1 hw (by omega) (by omega)
    refine Ev.bind e1 (Ev.congr (fun k => if_pos rfl) ?_)
    obtain ⟨e2, m2⟩ := nq.mul n1 (by omega)
    obtain ⟨e3, m3⟩ := m2.add 4000000 nr (by omega) (by omega) (by omega)
    obtain ⟨e4, m4⟩ := n0.norm (by omega)
    have e6 := nr.cmp n1 (by omega) (by omega)
    have hv : v / w * w + v % w = v := by
      have := Int.emod_add_mul_ediv v w
      have e : w * (v / w) = v / w * w := Int.mul_comm ..
      omega
    have hlt := Int.emod_lt_of_pos v hw
    refine Ev.bind e2 (Ev.bind e3 (Ev.bind e4 (Ev.bind (m3.same hv (by omega)) (Ev.congr (fun k => if_pos rfl) (Ev.bind e6 ?_)))))
    rw [decide_eq_true (sgn_neg_iff.2 (show v % w - w < 0 by omega))]
    exact Ev.now _
end Go.Proofs.Ytfmdjhfnbiekaaa.Pure
