/- A root's square is at most the number, the next one's is above it, and what is left is the difference: for all lists of words. -/
import Derived.Test.YtmhbjemfcgkhaaaQNatdivRoots31
import Derived.Test.YtmhbjemfcgkhaaaQNatdivRoots32
import Derived.Test.YtmhbjemfcgkhaaaQNatdivRoots33
import Derived.Test.YtmhbjemfcgkhaaaQNatdivRoots34
import Derived.Test.YtmhbjemfcgkhaaaQNatdivRoots35
import Derived.Test.YtmhbjemfcgkhaaaQNatdivRoots36
import Derived.Test.YtmhbjemfcgkhaaaQNatdivRoots37
import Derived.Test.YtmhbjemfcgkhaaaQNatdivRoots38
namespace Go.Proofs.Ytmhbjemfcgkhaaa.Pure
open Go.RowKit Go.Proofs.Ytmhbjemfcgkhaaa.PA Go.Proofs.YtmhbjemfcgkhaaaW.PrintWords Go.Proofs.YtmhbjemfcgkhaaaW.PrintLast Go.Proofs.Ytmhbjemfcgkhaaa.Num
set_option linter.unusedVariables false
theorem NatdivRoots (l0 : List Int) (y0 : l0.length * 8 ≤ 140737488351232) (w0 : ∀ n ∈ l0, (Lit.int .u64 n).wf = true) : ∃ k, vernierlaw02_NatdivRoots.f k l0 = some true := by
  refine Ev.rounds ?_
  unfold vernierlaw02_NatdivRoots.f
  refine Ev.bind alive2_ev (Ev.congr (fun k => if_pos rfl) ?_)
  by_cases h : l0.length > 40
  · exact Ev.congr (fun k => if_pos (by omega)) (Ev.now _)
  · refine Ev.congr (fun k => if_neg (by omega)) ?_
    have n0 := Nm.of_wf (n := 40) w0 (by omega)
    generalize V 18446744073709551616 l0 = v at n0
    obtain ⟨q, r, h1, h2, h3, h4, h5⟩ := sqrt_ev n0 (by omega)
    have hq := root_le h2 h3 h4
    have hr : r ≤ v := by
      have := Int.mul_nonneg h2 h2
      omega
    have nq := n0.dg_le h2 hq
    have nr := n0.dg_le h3 hr
    obtain ⟨e1, m1⟩ := nq.add 40 (Nm.one (x := 1) (n := 1) (by omega) (by omega) (by omega)) (by omega) (by omega) (by omega)
    obtain ⟨e2, m2⟩ := nq.mul nq (by omega)
    obtain ⟨e3, m3⟩ := m2.add 80 nr (by omega) (by omega) (by omega)
    obtain ⟨e4, m4⟩ := n0.norm (by omega)
    obtain ⟨e5, m5⟩ := m1.mul m1 (by omega)
    have e6 := m5.cmp n0 (by omega) (by omega)
    refine Ev.bind h1 (Ev.bind e1 (Ev.bind e2 (Ev.bind e3 (Ev.bind e4 (Ev.bind (m3.same h4 (by omega)) (Ev.congr (fun k => if_pos rfl) (Ev.bind e5 (Ev.bind e6 ?_))))))))
    rw [decide_eq_true (sgn_pos_iff.2 (show (q + 1) * (q + 1) - v > 0 by omega))]
    exact Ev.now _
end Go.Proofs.Ytmhbjemfcgkhaaa.Pure
