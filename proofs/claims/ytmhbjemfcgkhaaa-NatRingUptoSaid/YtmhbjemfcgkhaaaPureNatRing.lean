/- Sums and products of naturals are the same in any order, put together in any way: for all lists of at most 1048576 words. -/
import Derived.Test.YtmhbjemfcgkhaaaPAx8
import Derived.Test.YtmhbjemfcgkhaaaNum
import Derived.Test.YtmhbjemfcgkhaaaPALNat1
import Derived.Test.YtmhbjemfcgkhaaaPALNat2
import Derived.Test.YtmhbjemfcgkhaaaPALNat3
import Derived.Test.YtmhbjemfcgkhaaaPALNat4
namespace Go.Proofs.Ytmhbjemfcgkhaaa.Pure
open Go.RowKit Go.Proofs.Ytmhbjemfcgkhaaa.PA Go.Proofs.YtmhbjemfcgkhaaaW.PrintWords Go.Proofs.YtmhbjemfcgkhaaaW.PrintLast Go.Proofs.Ytmhbjemfcgkhaaa.Num
set_option linter.unusedVariables false

theorem NatRing (l0 l1 l2 : List Int) (y0 : l0.length ≤ 1048576) (w0 : ∀ n ∈ l0, (Lit.int .u64 n).wf = true) (y1 : l1.length ≤ 1048576) (w1 : ∀ n ∈ l1, (Lit.int .u64 n).wf = true)
    (y2 : l2.length ≤ 1048576) (w2 : ∀ n ∈ l2, (Lit.int .u64 n).wf = true) : ∃ k, vernierlaw01_NatRing.f k l0 l1 l2 = some true := by
  have n0 := Nm.of_wf w0 y0
  have n1 := Nm.of_wf w1 y1
  have n2 := Nm.of_wf w2 y2
  generalize V 18446744073709551616 l0 = a at n0
  generalize V 18446744073709551616 l1 = b at n1
  generalize V 18446744073709551616 l2 = c at n2
  refine Ev.rounds ?_
  unfold vernierlaw01_NatRing.f
  refine Ev.bind alive1_ev (Ev.congr (fun k => if_pos rfl) ?_)
  obtain ⟨e1, m1⟩ := n1.add 1048576 n2 (by omega) (by omega) (by omega)
  obtain ⟨e2, m2⟩ := n0.mul m1 (by omega)
  obtain ⟨e3, m3⟩ := n0.mul n1 (by omega)
  obtain ⟨e4, m4⟩ := n0.mul n2 (by omega)
  obtain ⟨e5, m5⟩ := m3.add 2097152 m4 (by omega) (by omega) (by omega)
  refine Ev.bind e1 (Ev.bind e2 (Ev.bind e3 (Ev.bind e4 (Ev.bind e5 (Ev.bind (m2.same (by grind) (by omega)) (Ev.congr (fun k => if_pos rfl) ?_))))))
  obtain ⟨e6, m6⟩ := n0.add 1048577 m1 (by omega) (by omega) (by omega)
  obtain ⟨e7, m7⟩ := n2.add 1048576 n1 (by omega) (by omega) (by omega)
  obtain ⟨e8, m8⟩ := m7.add 1048577 n0 (by omega) (by omega) (by omega)
  refine Ev.bind e1 (Ev.bind e6 (Ev.bind e7 (Ev.bind e8 (Ev.bind (m6.same (by omega) (by omega)) (Ev.congr (fun k => if_pos rfl) ?_)))))
  obtain ⟨e9, m9⟩ := n1.mul n2 (by omega)
  obtain ⟨e10, m10⟩ := n0.mul m9 (by omega)
  obtain ⟨e11, m11⟩ := n2.mul n1 (by omega)
  obtain ⟨e12, m12⟩ := m11.mul n0 (by omega)
  refine Ev.bind e9 (Ev.bind e10 (Ev.bind e11 (Ev.bind e12 (Ev.bind (m10.same (by grind) (by omega)) (Ev.now _)))))
end Go.Proofs.Ytmhbjemfcgkhaaa.Pure
