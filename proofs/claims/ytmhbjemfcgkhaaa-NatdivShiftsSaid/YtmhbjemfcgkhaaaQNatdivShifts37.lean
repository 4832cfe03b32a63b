/- Shifted up, and down again, a number is the same; down, and up, its lower bits are gone: for all lists of words. -/
import Derived.Test.YtmhbjemfcgkhaaaQNatdivShifts29
import Derived.Test.YtmhbjemfcgkhaaaQNatdivShifts30
import Derived.Test.YtmhbjemfcgkhaaaQNatdivShifts31
import Derived.Test.YtmhbjemfcgkhaaaQNatdivShifts32
import Derived.Test.YtmhbjemfcgkhaaaQNatdivShifts33
import Derived.Test.YtmhbjemfcgkhaaaQNatdivShifts34
import Derived.Test.YtmhbjemfcgkhaaaQNatdivShifts35
import Derived.Test.YtmhbjemfcgkhaaaQNatdivShifts36
namespace Go.Proofs.Ytmhbjemfcgkhaaa.Pure
open Go.RowKit Go.Proofs.Ytmhbjemfcgkhaaa.PA Go.Proofs.YtmhbjemfcgkhaaaW.PrintWords Go.Proofs.YtmhbjemfcgkhaaaW.PrintLast Go.Proofs.Ytmhbjemfcgkhaaa.Num
set_option linter.unusedVariables false
theorem shift_count (a : Int) : ∃ m : Nat, m < 5000 ∧ Int.tmod (wrap64 (Int.tmod a 5000 + 5000)) 5000 = (m : Int) := by
  have h1 : -5000 < Int.tmod a 5000 ∧ Int.tmod a 5000 < 5000 := by
    constructor
    · have := Int.lt_tmod_of_pos a (show (0 : Int) < 5000 by omega)
      omega
    · exact Int.tmod_lt_of_pos a (by omega)
  rw [w64 (by omega) (by omega), Int.tmod_eq_emod_of_nonneg (by omega)]
  exact ⟨((Int.tmod a 5000 + 5000) % 5000).toNat, by omega, by omega⟩
theorem NatdivShifts (l0 : List Int) (a1 : Int) (y0 : l0.length * 8 ≤ 140737488351232) (w0 : ∀ n ∈ l0, (Lit.int .u64 n).wf = true) (w1 : (Lit.int .i64 a1).wf = true) : ∃ k, vernierlaw02_NatdivShifts.f k l0 a1 = some true := by
  have n0 := Nm.of_wf (n := 17592186043904) w0 (by omega)
  generalize V 18446744073709551616 l0 = v at n0
  have hv := n0.nonneg
  obtain ⟨m, hm, e0⟩ := shift_count a1
  refine Ev.rounds ?_
  unfold vernierlaw02_NatdivShifts.f
  rw [e0]
  refine Ev.bind alive2_ev (Ev.congr (fun k => if_pos rfl) ?_)
  have hP := two_pow_pos m
  have hm0 := Int.emod_nonneg v (show (2 : Int) ^ m ≠ 0 by omega)
  have hm1 := Int.emod_lt_of_pos v hP
  have hdm := Int.emod_add_mul_ediv v (2 ^ m)
  obtain ⟨e1, m1⟩ := n0.Shl m (by omega) (by omega)
  have m1' := m1.mono (m := 17592186043990) (by omega)
  obtain ⟨e2, m2⟩ := m1'.Shr m (by omega) (by omega)
  obtain ⟨e3, m3⟩ := n0.Shr m (by omega) (by omega)
  obtain ⟨e4, m4⟩ := m3.Shl m (by omega) (by omega)
  obtain ⟨e5, m5⟩ := n0.norm (by omega)
  have hback : 2 ^ m * v / 2 ^ m = v := Int.mul_ediv_cancel_left _ (by omega)
  have e6 := m4.cmp n0 (by omega) (by omega)
  obtain ⟨e7, m7⟩ := n0.sub_le m4 (by omega) (by omega) (by omega)
  have e8 := m7.bits (by omega)
  refine Ev.bind e1 (Ev.bind e2 (Ev.bind e3 (Ev.bind e4 ?_)))
  refine Ev.congr (fun k => (if_pos rfl).trans ((if_pos rfl).trans ((if_pos rfl).trans (if_pos rfl)))) ?_
  refine Ev.bind e5 (Ev.bind (m2.same hback (by omega)) (Ev.congr (fun k => if_pos rfl) (Ev.bind e6 (Ev.congr (fun k => if_pos ?_) (Ev.bind e7 (Ev.bind e8 ?_))))))
  · have := sgn_pos_iff (x := 2 ^ m * (v / 2 ^ m) - v)
    omega
  · rw [decide_eq_true (bitsOf_le (n := m) (by omega) (by omega))]
    exact Ev.now _
end Go.Proofs.Ytmhbjemfcgkhaaa.Pure
