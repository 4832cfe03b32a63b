/- The greatest common divisor divides both; what they are by it has none above 1; zeros at the lower end are counted: for all lists of words. -/
import Derived.Test.YtjgdpjbkmcjbcaaDoorQNatdivGcd38
import Derived.Test.YtjgdpjbkmcjbcaaDoorQNatdivGcd39
import Derived.Test.YtjgdpjbkmcjbcaaDoorQNatdivGcd45
import Derived.Test.YtjgdpjbkmcjbcaaDoorQNatdivGcd47
import Derived.Test.YtjgdpjbkmcjbcaaDoorQNatdivGcd48
import Derived.Test.YtjgdpjbkmcjbcaaDoorQNatdivGcd40
import Derived.Test.YtjgdpjbkmcjbcaaDoorQNatdivGcd41
import Derived.Test.YtjgdpjbkmcjbcaaDoorQNatdivGcd42
import Derived.Test.YtjgdpjbkmcjbcaaDoorQNatdivGcd43
import Derived.Test.YtjgdpjbkmcjbcaaDoorQNatdivGcd46
import Derived.Test.YtjgdpjbkmcjbcaaDoorQNatdivGcd49
import Derived.Test.YtjgdpjbkmcjbcaaDoorQNatdivGcd50
namespace Go.Proofs.YtjgdpjbkmcjbcaaDoor.Pure
open Go.RowKit Go.Proofs.YtjgdpjbkmcjbcaaDoor.PD Go.Proofs.YtjgdpjbkmcjbcaaDoorW.PrintWords Go.Proofs.YtjgdpjbkmcjbcaaDoorW.PrintLast Go.Proofs.YtjgdpjbkmcjbcaaDoorW.PrintMore Go.Proofs.YtjgdpjbkmcjbcaaDoor.Num
set_option linter.unusedVariables false
theorem one_fin {l : List Int} (h : l = [1]) : (if (l.length : Int) = 1 then (if 0 < (l.length : Int) then (some ((rd l 0) == 1)) else (none)) else (some false)) = some true := by
  subst h
  rfl
theorem w00 : wrap64 ((([] : List Int).length : Int) + (([] : List Int).length : Int)) = 0 := (w64 (by decide) (by decide)).trans rfl
theorem gcd_j1 {l0 l1 : List Int} {v w : Int} (n0 : Nm l0 v 12) (n1 : Nm l1 w 12) (hg : 0 < ((Int.gcd v w : Nat) : Int)) : Ev (fun k => vernierlaw02_NatdivGcd.j1 k l0 l1 (dg 18446744073709551616 ((Int.gcd v w : Nat) : Int)) false) true := by
  have hv := n0.nonneg
  have hw := n1.nonneg
  obtain ⟨p, hp⟩ := Int.gcd_dvd_left v w
  obtain ⟨q, hq⟩ := Int.gcd_dvd_right v w
  have hone : Int.gcd (v / ((Int.gcd v w : Nat) : Int)) (w / ((Int.gcd v w : Nat) : Int)) = 1 := Int.gcd_ediv_gcd_ediv_gcd (by omega)
  have mv : v % ((Int.gcd v w : Nat) : Int) = 0 := Int.emod_eq_zero_of_dvd (Int.gcd_dvd_left v w)
  have mw : w % ((Int.gcd v w : Nat) : Int) = 0 := Int.emod_eq_zero_of_dvd (Int.gcd_dvd_right v w)
  have ng : Nm (dg 18446744073709551616 ((Int.gcd v w : Nat) : Int)) ((Int.gcd v w : Nat) : Int) 12 := by
    by_cases h : v = 0
    · have hw' : 0 < w := by
        by_cases z : w = 0
        · subst h; subst z; exact absurd hg (by decide)
        · omega
      exact n1.dg_le (Int.le_of_lt hg) (Int.le_of_dvd hw' (Int.gcd_dvd_right v w))
    · exact n0.dg_le (Int.le_of_lt hg) (Int.le_of_dvd (by omega) (Int.gcd_dvd_left v w))
  obtain ⟨e1, np, _⟩ := n0.divmod ng hg (by omega) (by omega)
  obtain ⟨e2, nq, _⟩ := n1.divmod ng hg (by omega) (by omega)
  rw [mv] at e1
  rw [mw] at e2
  obtain ⟨t, e3, ht⟩ := n0.zeros (by omega)
  have ht' : t ≤ 768 := by
    rcases ht with h | ⟨m, _, _, h⟩ <;> omega
  obtain ⟨e4, n4⟩ := n0.Shr t (by omega) (by omega)
  obtain ⟨e5, n5⟩ := n4.Shl t (by omega) (by omega)
  obtain ⟨e6, n6⟩ := n0.norm (by omega)
  have P0 := two_pow_pos t
  have hback : 2 ^ t * (v / 2 ^ t) = v := by
    rcases ht with ⟨h, _⟩ | ⟨m, _, h, _⟩
    · rw [h, Int.zero_ediv, Int.mul_zero]
    · unfold Odd2 at h
      rw [h, Int.mul_ediv_cancel_left _ (by omega)]
  have eg := np.gcd 12 nq (by omega) (by omega) (by omega)
  rw [hone] at eg
  have e1d : dg 18446744073709551616 (((1 : Nat)) : Int) = [1] := dg_one one_lt_B (by decide) (by decide)
  rw [e1d] at eg
  have ez : dg 18446744073709551616 0 = [] := rfl
  rw [ez] at e1 e2
  have eb := n0.bits (by omega)
  refine Ev.step (f := _) (fun k => by rw [vernierlaw02_NatdivGcd.j1, if_neg (by decide)]) ?_
  refine Ev.bind e1 (Ev.bind e2 (Ev.bind e3 (Ev.bind e4 (Ev.bind e5 (Ev.congr (fun k => (if_pos rfl).trans (if_pos rfl)) ?_)))))
  refine Ev.bind e6 (Ev.bind (n5.same hback (by omega)) (Ev.congr (fun k => if_pos rfl) (Ev.bind eb ?_)))
  have fin : Ev (fun k => (natdiv_Gcd.f k (dg 18446744073709551616 (v / ((Int.gcd v w : Nat) : Int))) (dg 18446744073709551616 (w / ((Int.gcd v w : Nat) : Int)))).bind fun t306 => (if (0 : Int) = 0 then (if (0 : Int) = 0 then (if (wrap64 ((([] : List Int).length : Int) + (([] : List Int).length : Int))) = 0 then (if (t306.length : Int) = 1 then (if 0 < (t306.length : Int) then (some ((rd t306 0) == 1)) else (none)) else (some false)) else (some false)) else (some false)) else (some false))) true := by
    refine Ev.bind eg (Ev.congr (fun k => (if_pos rfl).trans ((if_pos rfl).trans (if_pos w00))) ?_)
    exact Ev.congr (fun k => one_fin rfl) (Ev.now _)
  by_cases hb : bitsOf v > 0
  · refine Ev.congr (fun k => if_pos hb) ?_
    have hvp : v ≠ 0 := fun h => by
      rw [h] at hb
      exact absurd hb (by decide)
    have hodd : v / 2 ^ t % 2 = 1 := by
      rcases ht with ⟨h, _⟩ | ⟨m, _, h, _⟩
      · exact absurd h hvp
      · unfold Odd2 at h
        rw [h, Int.mul_ediv_cancel_left _ (by omega)]
        omega
    have hev := n4.even
    rw [decide_eq_false (by omega)] at hev
    exact Ev.bind (g := fun _ => nat_Even.f (dg 18446744073709551616 (v / 2 ^ t))) (Ev.congr (fun _ => hev) (Ev.now _)) (Ev.congr (fun k => if_neg (by decide)) fin)
  · exact Ev.congr (fun k => if_neg hb) fin
theorem NatdivGcd (l0 : List Int) (l1 : List Int) (y0 : l0.length * 8 ≤ 140737488351232) (w0 : ∀ n ∈ l0, (Lit.int .u64 n).wf = true) (y1 : l1.length * 8 ≤ 140737488351232) (w1 : ∀ n ∈ l1, (Lit.int .u64 n).wf = true) : ∃ k, vernierlaw02_NatdivGcd.f k l0 l1 = some true := by
  refine Ev.rounds ?_
  unfold vernierlaw02_NatdivGcd.f
  refine Ev.bind alive2_ev (Ev.congr (fun k => if_pos rfl) ?_)
  have long : Ev (fun k => vernierlaw02_NatdivGcd.j0 k l0 l1 true) true := Ev.step (f := fun _ => some true) (fun k => by rw [vernierlaw02_NatdivGcd.j0, if_pos rfl]) (Ev.now _)
  by_cases h0 : (l0.length : Int) > 12
  · exact Ev.congr (fun k => if_pos h0) long
  · refine Ev.congr (fun k => if_neg h0) ?_
    by_cases h1 : (l1.length : Int) > 12
    · rw [decide_eq_true h1]
      exact long
    · rw [decide_eq_false h1]
      have n0 := Nm.of_wf (n := 12) w0 (by omega)
      have n1 := Nm.of_wf (n := 12) w1 (by omega)
      generalize V 18446744073709551616 l0 = v at n0
      generalize V 18446744073709551616 l1 = w at n1
      have hv := n0.nonneg
      have hw := n1.nonneg
      have eg := n0.gcd 12 n1 (by omega) (by omega) (by omega)
      refine Ev.step (f := _) (fun k => by rw [vernierlaw02_NatdivGcd.j0, if_neg (by decide)]) ?_
      refine Ev.bind eg (Ev.bind (n0.bits (by omega)) ?_)
      have zv := bitsOf_zero_iff hv
      have zw := bitsOf_zero_iff hw
      by_cases bv : bitsOf v = 0
      · refine Ev.congr (fun k => if_pos bv) (Ev.bind (n1.bits (by omega)) ?_)
        have v0 := zv.1 bv
        by_cases bw : bitsOf w = 0
        · have w0' := zw.1 bw
          have e : (bitsOf w == 0) = true := beq_iff_eq.2 bw
          rw [e]
          obtain ⟨t, e3, ht⟩ := n0.zeros (by omega)
          have ht0 : t = 0 := by
            rcases ht with ⟨_, h⟩ | ⟨m, h1, h2, _⟩
            · exact h
            · exfalso
              unfold Odd2 at h2
              have := two_pow_pos t
              have h3 := Int.mul_pos this (show 0 < 2 * m + 1 by omega)
              omega
          subst v0
          subst w0'
          have eg0 : dg 18446744073709551616 ((Int.gcd 0 0 : Nat) : Int) = [] := rfl
          rw [eg0]
          refine Ev.step (f := _) (fun k => by rw [vernierlaw02_NatdivGcd.j1, if_pos rfl, if_pos (show (([] : List Int).length : Int) = 0 from rfl)]) (Ev.bind e3 ?_)
          rw [ht0]
          exact Ev.now _
        · have e : (bitsOf w == 0) = false := beq_eq_false_iff_ne.2 bw
          rw [e]
          refine gcd_j1 n0 n1 ?_
          have := Int.gcd_pos_of_ne_zero_right v (show w ≠ 0 from fun h => bw (zw.2 h))
          omega
      · refine Ev.congr (fun k => if_neg bv) (gcd_j1 n0 n1 ?_)
        have := Int.gcd_pos_of_ne_zero_left w (show v ≠ 0 from fun h => bv (zv.2 h))
        omega
end Go.Proofs.YtjgdpjbkmcjbcaaDoor.Pure
