/- Which one of two whole numbers is greater stays when the same is added, and turns when both change their signs: for all numbers of at most as many words as a slice may have. -/
import Derived.Test.YtmhbjemfcgkhaaaQWholeOrder29
import Derived.Test.YtmhbjemfcgkhaaaQWholeOrder30
import Derived.Test.YtmhbjemfcgkhaaaQWholeOrder31
import Derived.Test.YtmhbjemfcgkhaaaQWholeOrder32
import Derived.Test.YtmhbjemfcgkhaaaQWholeOrder33
import Derived.Test.YtmhbjemfcgkhaaaQWholeOrder34
import Derived.Test.YtmhbjemfcgkhaaaQWholeOrder35
namespace Go.Proofs.Ytmhbjemfcgkhaaa.Pure
open Go.RowKit Go.Proofs.Ytmhbjemfcgkhaaa.PA Go.Proofs.YtmhbjemfcgkhaaaW.PrintWords Go.Proofs.YtmhbjemfcgkhaaaW.PrintLast Go.Proofs.Ytmhbjemfcgkhaaa.Num
set_option linter.unusedVariables false
theorem WholeOrder (a0_0 : Bool) (l0_1 : List Int) (a1_0 : Bool) (l1_1 : List Int) (a2_0 : Bool) (l2_1 : List Int) (y0 : l0_1.length * 8 ≤ 140737488351232) (w0 : ∀ n ∈ l0_1, (Lit.int .u64 n).wf = true) (y1 : l1_1.length * 8 ≤ 140737488351232) (w1 : ∀ n ∈ l1_1, (Lit.int .u64 n).wf = true)
    (y2 : l2_1.length * 8 ≤ 140737488351232) (w2 : ∀ n ∈ l2_1, (Lit.int .u64 n).wf = true) : ∃ k, vernierlaw03_WholeOrder.f k a0_0 l0_1 a1_0 l1_1 a2_0 l2_1 = some true := by
  have v0 := Nm.of_wf (n := 17592186043904) w0 (by omega)
  have n0 := Wh.of (s := a0_0) v0
  have n1 := Wh.of (s := a1_0) (Nm.of_wf (n := 17592186043904) w1 (by omega))
  have n2 := Wh.of (s := a2_0) (Nm.of_wf (n := 17592186043904) w2 (by omega))
  have ea : ((-(sv a0_0 (V 18446744073709551616 l0_1))).natAbs : Int) = V 18446744073709551616 l0_1 := by
    have := v0.nonneg
    unfold sv
    split <;> omega
  generalize sv a0_0 (V 18446744073709551616 l0_1) = a at n0 ea
  generalize sv a1_0 (V 18446744073709551616 l1_1) = b at n1
  generalize sv a2_0 (V 18446744073709551616 l2_1) = c at n2
  refine Ev.rounds ?_
  unfold vernierlaw03_WholeOrder.f
  refine Ev.bind alive3_ev (Ev.congr (fun k => if_pos rfl) ?_)
  have e1 := n0.cmp 17592186043904 n1 (by omega) (by omega) (by omega)
  obtain ⟨e2, m2⟩ := n0.add 17592186043904 n2 (by omega) (by omega) (by omega)
  obtain ⟨e3, m3⟩ := n1.add 17592186043904 n2 (by omega) (by omega) (by omega)
  have e4 := m2.cmp 17592186043905 m3 (by omega) (by omega) (by omega)
  obtain ⟨e5, m5⟩ := n0.neg (by omega)
  obtain ⟨e6, m6⟩ := n1.neg (by omega)
  have e7 := m5.cmp 17592186043904 m6 (by omega) (by omega) (by omega)
  refine Ev.bind e1 (Ev.bind e2 (Ev.bind e3 (Ev.bind e4 (Ev.congr (fun k => if_pos (by congr 1; omega)) ?_))))
  have hs : sgn (a - b) = wrap64 (-(sgn (-a - -b))) := by
    have h := sgn_neg (a - b)
    rw [show -(a - b) = -a - -b by omega] at h
    have r := sgn_range (a - b)
    rw [h, w64 (by omega) (by omega)]
    omega
  refine Ev.bind e5 (Ev.bind e6 (Ev.bind e7 (Ev.congr (fun k => if_pos hs) (Ev.bind e5 ?_))))
  have e8 := m5.nm.cmp v0 (by omega) (by omega)
  rw [ea, Int.sub_self] at e8
  exact Ev.bind e8 (Ev.now true)
end Go.Proofs.Ytmhbjemfcgkhaaa.Pure
