/- What is taken away from a whole number, put back, is there; a number times the sum of two is the sum of both products: for all numbers of at most 1048576 words. -/
import Derived.Test.YtmhbjemfcgkhaaaQWholeBack32
import Derived.Test.YtmhbjemfcgkhaaaQWholeBack33
import Derived.Test.YtmhbjemfcgkhaaaQWholeBack34
import Derived.Test.YtmhbjemfcgkhaaaQWholeBack35
import Derived.Test.YtmhbjemfcgkhaaaQWholeBack36
import Derived.Test.YtmhbjemfcgkhaaaQWholeBack37
import Derived.Test.YtmhbjemfcgkhaaaQWholeBack38
namespace Go.Proofs.Ytmhbjemfcgkhaaa.Pure
open Go.RowKit Go.Proofs.Ytmhbjemfcgkhaaa.PA Go.Proofs.YtmhbjemfcgkhaaaW.PrintWords Go.Proofs.YtmhbjemfcgkhaaaW.PrintLast Go.Proofs.Ytmhbjemfcgkhaaa.Num
set_option linter.unusedVariables false
theorem WholeBack (a0_0 : Bool) (l0_1 : List Int) (a1_0 : Bool) (l1_1 : List Int) (a2_0 : Bool) (l2_1 : List Int) (y0 : l0_1.length ≤ 1048576) (w0 : ∀ n ∈ l0_1, (Lit.int .u64 n).wf = true) (y1 : l1_1.length ≤ 1048576) (w1 : ∀ n ∈ l1_1, (Lit.int .u64 n).wf = true)
    (y2 : l2_1.length ≤ 1048576) (w2 : ∀ n ∈ l2_1, (Lit.int .u64 n).wf = true) : ∃ k, vernierlaw03_WholeBack.f k a0_0 l0_1 a1_0 l1_1 a2_0 l2_1 = some true := by
  have n0 := Wh.of (s := a0_0) (Nm.of_wf w0 y0)
  have n1 := Wh.of (s := a1_0) (Nm.of_wf w1 y1)
  have n2 := Wh.of (s := a2_0) (Nm.of_wf w2 y2)
  generalize sv a0_0 (V 18446744073709551616 l0_1) = a at n0
  generalize sv a1_0 (V 18446744073709551616 l1_1) = b at n1
  generalize sv a2_0 (V 18446744073709551616 l2_1) = c at n2
  refine Ev.rounds ?_
  unfold vernierlaw03_WholeBack.f
  refine Ev.bind alive3_ev (Ev.congr (fun k => if_pos rfl) ?_)
  obtain ⟨e1, m1⟩ := n0.sub 1048576 n1 (by omega) (by omega) (by omega)
  obtain ⟨e2, m2⟩ := m1.add 1048577 n1 (by omega) (by omega) (by omega)
  obtain ⟨e3, m3⟩ := n0.norm (by omega)
  refine Ev.bind e1 (Ev.bind e2 (Ev.bind e3 (Ev.bind (m2.same (by omega) (by omega)) (Ev.congr (fun k => if_pos rfl) ?_))))
  obtain ⟨e4, m4⟩ := n1.add 1048576 n2 (by omega) (by omega) (by omega)
  obtain ⟨e5, m5⟩ := n0.mul m4 (by omega)
  obtain ⟨e6, m6⟩ := n0.mul n1 (by omega)
  obtain ⟨e7, m7⟩ := n0.mul n2 (by omega)
  obtain ⟨e8, m8⟩ := m6.add 2097152 m7 (by omega) (by omega) (by omega)
  refine Ev.bind e4 (Ev.bind e5 (Ev.bind e6 (Ev.bind e7 (Ev.bind e8 (Ev.bind (m5.same (Int.mul_add _ _ _) (by omega)) (Ev.congr (fun k => if_pos rfl) ?_))))))
  obtain ⟨e9, m9⟩ := n0.neg (by omega)
  obtain ⟨e10, m10⟩ := m9.neg (by omega)
  exact Ev.bind e9 (Ev.bind e10 (Ev.bind e3 (Ev.bind (m10.same (Int.neg_neg _) (by omega)) (Ev.now _))))
end Go.Proofs.Ytmhbjemfcgkhaaa.Pure
