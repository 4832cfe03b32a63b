/- The less one of two naturals, and how far they are apart, are the greater one: for all lists of words that a slice holds. -/
import Derived.Test.YtmhbjemfcgkhaaaPAx6
import Derived.Test.YtmhbjemfcgkhaaaNum
import Derived.Test.YtmhbjemfcgkhaaaPALNat1
import Derived.Test.YtmhbjemfcgkhaaaPALNat2
namespace Go.Proofs.Ytmhbjemfcgkhaaa.Pure
open Go.RowKit Go.Proofs.Ytmhbjemfcgkhaaa.PA Go.Proofs.YtmhbjemfcgkhaaaW.PrintWords Go.Proofs.YtmhbjemfcgkhaaaW.PrintLast Go.Proofs.Ytmhbjemfcgkhaaa.Num
set_option linter.unusedVariables false

theorem cmp_back (a b : Int) : (sgn (a - b) == wrap64 (-(sgn (b - a)))) = true := by
  have h := sgn_neg (a - b)
  have e : -(a - b) = b - a := by omega
  rw [e] at h
  have r := sgn_range (a - b)
  rw [h, w64 (by omega) (by omega)]
  simp

theorem NatApart : vernierlaw01_NatApart.Pure := by
  intro l0 l1 _ hl0 hw0 _ hl1 hw1
  have h0 := dig_of_wf hw0
  have h1 := dig_of_wf hw1
  have p0 := V_nonneg B_pos h0
  have p1 := V_nonneg B_pos h1
  refine Ev.rounds ?_
  unfold vernierlaw01_NatApart.f
  refine Ev.bind alive1_ev ?_
  refine Ev.congr (fun k => if_pos rfl) ?_
  refine Ev.bind (cmp_ev l0 l1 h0 h1 (by omega) (by omega)) ?_
  have hs := sub_ev l0 l1 h0 h1 (by omega) (by omega)
  have vd : V 18446744073709551616 (dg 18446744073709551616 ((V 18446744073709551616 l0 - V 18446744073709551616 l1).natAbs : Int)) = ((V 18446744073709551616 l0 - V 18446744073709551616 l1).natAbs : Int) := dg_val one_lt_B (by omega)
  have tail : Ev (fun k => (nat_Cmp.f k l0 l1).bind fun t => (nat_Cmp.f k l1 l0).bind fun t' => some (t == wrap64 (-t'))) true := by
    refine Ev.bind (cmp_ev l0 l1 h0 h1 (by omega) (by omega)) (Ev.bind (cmp_ev l1 l0 h1 h0 (by omega) (by omega)) ?_)
    rw [cmp_back]
    exact Ev.now _
  by_cases h : V 18446744073709551616 l0 > V 18446744073709551616 l1
  · refine Ev.congr (fun k => if_pos (sgn_pos_iff.2 (by omega))) ?_
    have ld := dg_len_V one_lt_B h0 (v := ((V 18446744073709551616 l0 - V 18446744073709551616 l1).natAbs : Int)) (by omega) (by omega)
    refine Ev.bind hs ?_
    refine Ev.bind (add_ev l1 _ h1 (dg_dig one_lt_B _) (by omega) (by omega)) ?_
    refine Ev.bind (norm_ev l0 (by omega) h0) ?_
    rw [vd]
    refine Ev.bind (same_true (by congr 1; omega) (Nat.le_trans (dg_len_V one_lt_B h0 (by omega) (by omega)) (by omega))) ?_
    exact Ev.congr (fun k => if_pos rfl) tail
  · refine Ev.congr (fun k => if_neg (fun h' => h (by have := sgn_pos_iff.1 h'; omega))) ?_
    have ld := dg_len_V one_lt_B h1 (v := ((V 18446744073709551616 l0 - V 18446744073709551616 l1).natAbs : Int)) (by omega) (by omega)
    refine Ev.bind hs ?_
    refine Ev.bind (add_ev l0 _ h0 (dg_dig one_lt_B _) (by omega) (by omega)) ?_
    refine Ev.bind (norm_ev l1 (by omega) h1) ?_
    rw [vd]
    refine Ev.bind (same_true (by congr 1; omega) (Nat.le_trans (dg_len_V one_lt_B h1 (by omega) (by omega)) (by omega))) ?_
    exact Ev.congr (fun k => if_pos rfl) tail
end Go.Proofs.Ytmhbjemfcgkhaaa.Pure
