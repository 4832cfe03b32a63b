/- A dyadic number that may not be has no fraction; one that may be has: for all numbers. -/
import Derived.Test.YtfmdjhfnbiekaaaQRatioMany38
import Derived.Test.YtfmdjhfnbiekaaaQRatioMany39
import Derived.Test.YtfmdjhfnbiekaaaQRatioMany45
import Derived.Test.YtfmdjhfnbiekaaaQRatioMany47
import Derived.Test.YtfmdjhfnbiekaaaQRatioMany48
import Derived.Test.YtfmdjhfnbiekaaaQRatioMany40
import Derived.Test.YtfmdjhfnbiekaaaQRatioMany41
import Derived.Test.YtfmdjhfnbiekaaaQRatioMany42
import Derived.Test.YtfmdjhfnbiekaaaQRatioMany43
import Derived.Test.YtfmdjhfnbiekaaaQRatioMany50
import Derived.Test.YtfmdjhfnbiekaaaQRatioMany46
import Derived.Test.YtfmdjhfnbiekaaaQRatioMany49
namespace Go.Proofs.Ytfmdjhfnbiekaaa.Pure
open Go.RowKit Go.Proofs.Ytfmdjhfnbiekaaa.PB Go.Proofs.YtfmdjhfnbiekaaaW.PrintWords Go.Proofs.YtfmdjhfnbiekaaaW.PrintLast Go.Proofs.YtfmdjhfnbiekaaaW.PrintMore Go.Proofs.Ytfmdjhfnbiekaaa.Num
set_option linter.unusedVariables false
theorem zero00 : vernierlaw05_zero.f false [] [] = some true := by
  have e : wrap64 ((([] : List Int).length : Int) + (([] : List Int).length : Int)) = 0 := (w64 (by decide) (by decide)).trans rfl
  unfold vernierlaw05_zero.f
  rw [if_pos e]
  rfl
theorem RatioMany (a0_0 : Bool) (l0_1 : List Int) (a0_2 : Int) (y0 : l0_1.length * 8 ≤ 140737488351232) (w0 : ∀ n ∈ l0_1, (Lit.int .u64 n).wf = true) (w1 : (Lit.int .i64 a0_2).wf = true) : ∃ k, vernierlaw05_RatioMany.f k a0_0 l0_1 a0_2 = some true := by
  refine Ev.rounds ?_
  unfold vernierlaw05_RatioMany.f
  refine Ev.bind alive5_ev (Ev.congr (fun k => if_pos rfl) ?_)
  by_cases hl : l0_1.length > 6
  · exact Ev.congr (fun k => if_pos (by omega)) (Ev.now _)
  · refine Ev.congr (fun k => if_neg (by omega)) ?_
    have n0 := Nm.of_wf (n := 6) w0 (by omega)
    by_cases hc : -16384 ≤ a0_2 ∧ a0_2 ≤ 16384
    · have hck : Ev (fun _ => dyadic_Check.f a0_0 l0_1 a0_2) 0 := by
        unfold dyadic_Check.f
        exact Ev.congr (fun _ => (if_neg (by omega)).trans ((if_neg (by omega)).trans (if_neg (by omega)))) (Ev.now _)
      refine Ev.bind (rof_ev n0 (by omega) a0_2 hc.1 hc.2) (Ev.bind hck (Ev.congr (fun k => (if_pos rfl).trans (if_pos rfl)) ?_))
      have hq : (mx (-a0_2) 0).toNat ≤ 16384 := by unfold mx; split <;> omega
      have hw := two_pow_pos (mx (-a0_2) 0).toNat
      have nw := pow_nm hq
      generalize (2 : Int) ^ (mx (-a0_2) 0).toNat = w at hw nw
      generalize sv a0_0 (2 ^ (mx a0_2 0).toNat * V 18446744073709551616 l0_1) = x
      have hd := rz_den (x := x) hw
      have nd := nw.dg_le (Int.le_of_lt hd.1) hd.2
      refine Ev.bind (nd.bits (by omega)) ?_
      rw [decide_eq_true (show bitsOf (w / ((Int.gcd x w : Nat) : Int)) > 0 from bitsOf_pos hd.1)]
      exact Ev.now _
    · have hck : Ev (fun _ => dyadic_Check.f a0_0 l0_1 a0_2) 9 := by
        unfold dyadic_Check.f
        by_cases h1 : a0_2 < -16384
        · exact Ev.congr (fun _ => if_pos h1) (Ev.now _)
        · exact Ev.congr (fun _ => (if_neg h1).trans (if_pos (by omega))) (Ev.now _)
      have hof : Ev (fun k => ratio_Of.f k a0_0 l0_1 a0_2) (false, [], [], 9) := by
        unfold ratio_Of.f
        exact Ev.bind hck (Ev.congr (fun k => if_neg (by decide)) (Ev.now _))
      refine Ev.bind hof (Ev.bind hck (Ev.congr (fun k => (if_neg (by decide)).trans (if_pos rfl)) ?_))
      exact Ev.bind (g := fun _ => vernierlaw05_zero.f false [] []) (Ev.congr (fun _ => zero00) (Ev.now _)) (Ev.now _)
end Go.Proofs.Ytfmdjhfnbiekaaa.Pure
