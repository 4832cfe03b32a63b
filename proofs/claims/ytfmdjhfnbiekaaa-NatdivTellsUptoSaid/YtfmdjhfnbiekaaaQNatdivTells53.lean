/- Any natural, shifted up or down, divided by any, is as of plain digits: for all lists of at most 1048576 words. -/
import Derived.Test.YtfmdjhfnbiekaaaQNatdivTells37
import Derived.Test.YtfmdjhfnbiekaaaQNatdivTells38
import Derived.Test.YtfmdjhfnbiekaaaQNatdivTells44
import Derived.Test.YtfmdjhfnbiekaaaQNatdivTells46
import Derived.Test.YtfmdjhfnbiekaaaQNatdivTells39
import Derived.Test.YtfmdjhfnbiekaaaQNatdivTells40
import Derived.Test.YtfmdjhfnbiekaaaQNatdivTells41
import Derived.Test.YtfmdjhfnbiekaaaQNatdivTells42
import Derived.Test.YtfmdjhfnbiekaaaQNatdivTells47
import Derived.Test.YtfmdjhfnbiekaaaQNatdivTells48
import Derived.Test.YtfmdjhfnbiekaaaQNatdivTells49
import Derived.Test.YtfmdjhfnbiekaaaQNatdivTells51
import Derived.Test.YtfmdjhfnbiekaaaQNatdivTells50
import Derived.Test.YtfmdjhfnbiekaaaQNatdivTells45
import Derived.Test.YtfmdjhfnbiekaaaQNatdivTells52
namespace Go.Proofs.Ytfmdjhfnbiekaaa.Pure
open Go.RowKit Go.Proofs.Ytfmdjhfnbiekaaa.PB Go.Proofs.YtfmdjhfnbiekaaaW.PrintWords Go.Proofs.YtfmdjhfnbiekaaaW.PrintLast Go.Proofs.Ytfmdjhfnbiekaaa.Num
set_option linter.unusedVariables false
theorem w00 : wrap64 ((([] : List Int).length : Int) + (([] : List Int).length : Int)) = 0 := (w64 (by decide) (by decide)).trans rfl
theorem odd_Shl {l : List Int} {a : Int} (h : a < 0 ∨ 65536 < a) : Ev (fun k => natdiv_Shl.f k l a) ([], 4) := by
  unfold natdiv_Shl.f
  exact Ev.bind (g := fun _ => natdiv_odd.f a) (Ev.congr (fun _ => odd_no h) (Ev.now _)) (Ev.congr (fun k => if_pos rfl) (Ev.now _))
theorem odd_Shr {l : List Int} {a : Int} (h : a < 0 ∨ 65536 < a) : Ev (fun k => natdiv_Shr.f k l a) ([], 4) := by
  unfold natdiv_Shr.f
  exact Ev.bind (g := fun _ => natdiv_odd.f a) (Ev.congr (fun _ => odd_no h) (Ev.now _)) (Ev.congr (fun k => if_pos rfl) (Ev.now _))
theorem tells_div {l0 l1 : List Int} {v w : Int} (n0 : Nm l0 v 1048576) (n1 : Nm l1 w 1048576) (d0 : Nd (dg 65536 v) v 4194304) (d1 : Nd (dg 65536 w) w 4194304) :
    Ev (fun k => vernierlaw02_NatdivTells.j1 k l0 l1 (dg 65536 v) (dg 65536 w)) true := by
  refine Ev.step (f := fun k => (natdiv_DivMod.f k l0 l1).bind fun bt429 => (if ((dg 65536 w).length : Int) = 0 then (if bt429.2.2 = 7 then (some ((wrap64 ((bt429.1.length : Int) + (bt429.2.1.length : Int))) == 0)) else (some false)) else (if ((dg 65536 v).length : Int) > 60 then (some (bt429.2.2 == 0)) else ((vernierref01_Div.f k (dg 65536 v) (dg 65536 w)).bind fun bt436 => (if bt429.2.2 = 0 then ((vernierref01_Limbs.f k bt436.1).bind fun t442 => ((vernierref01_Same.f k bt429.1 t442).bind fun t445 => (if t445 = true then ((vernierref01_Limbs.f k bt436.2).bind fun t446 => ((vernierref01_Same.f k bt429.2.1 t446).bind fun t449 => (some t449))) else (some false)))) else (some false)))))) (fun k => by rw [vernierlaw02_NatdivTells.j1]) ?_
  by_cases h0 : w = 0
  · subst h0
    refine Ev.bind (n0.divmod0 n1 (by omega)) ?_
    refine Ev.congr (fun k => if_pos rfl) (Ev.congr (fun k => if_pos rfl) ?_)
    exact Ev.congr (fun k => congrArg (fun x : Int => some (x == 0)) w00) (Ev.now _)
  · have hw : 0 < w := by have := n1.nonneg; omega
    obtain ⟨e1, nq, nr⟩ := n0.divmod n1 hw (by omega) (by omega)
    have hne : (dg 65536 w).length ≠ 0 := fun e => by
      have := (dg_nil one_lt_D (Int.le_of_lt hw)).1 (List.length_eq_zero_iff.1 e)
      omega
    refine Ev.bind e1 (Ev.congr (fun k => if_neg (by omega)) ?_)
    by_cases hl : (dg 65536 v).length > 60
    · exact Ev.congr (fun k => if_pos (by omega)) (Ev.now _)
    · have hdiv := d0.div d1 hw (by omega)
      have hv := n0.nonneg
      have q0 : 0 ≤ v / w := Int.ediv_nonneg hv (Int.le_of_lt hw)
      have r0 := Int.emod_nonneg v (show w ≠ 0 by omega)
      have r1 := Int.emod_lt_of_pos v hw
      have dq := d0.dg_le q0 (Int.ediv_le_self _ hv)
      have dr := d1.dg_le r0 (Int.le_of_lt r1)
      refine Ev.congr (fun k => if_neg (by omega)) (Ev.bind hdiv (Ev.congr (fun k => if_pos rfl) ?_))
      refine Ev.bind (dq.limbs (by omega)) (Ev.bind (nq.same rfl (by omega)) (Ev.congr (fun k => if_pos rfl) ?_))
      exact Ev.bind (dr.limbs (by omega)) (Ev.bind (nr.same rfl (by omega)) (Ev.now _))
theorem NatdivTells (l0 : List Int) (l1 : List Int) (a2 : Int) (y0 : l0.length ≤ 1048576) (w0 : ∀ n ∈ l0, (Lit.int .u64 n).wf = true) (y1 : l1.length ≤ 1048576) (w1 : ∀ n ∈ l1, (Lit.int .u64 n).wf = true) (w2 : (Lit.int .i64 a2).wf = true) : ∃ k, vernierlaw02_NatdivTells.f k l0 l1 a2 = some true := by
  refine Ev.rounds ?_
  have n0 := Nm.of_wf (n := 1048576) w0 y0
  have n1 := Nm.of_wf (n := 1048576) w1 y1
  generalize V 18446744073709551616 l0 = v at n0
  generalize V 18446744073709551616 l1 = w at n1
  obtain ⟨eo0, d0⟩ := n0.of (by omega)
  obtain ⟨eo1, d1⟩ := n1.of (by omega)
  have hfin := tells_div n0 n1 d0 d1
  unfold vernierlaw02_NatdivTells.f
  refine Ev.bind alive2_ev (Ev.congr (fun k => if_pos rfl) (Ev.bind eo0 (Ev.bind eo1 ?_)))
  by_cases ho : a2 < 0 ∨ 65536 < a2
  · refine Ev.bind (odd_Shl ho) (Ev.bind (odd_Shr ho) ?_)
    have hj : Ev (fun k => vernierlaw02_NatdivTells.j0 k l0 l1 a2 (dg 65536 v) (dg 65536 w) [] 4 [] 4 true) true := by
      refine Ev.step (f := fun k => vernierlaw02_NatdivTells.j1 k l0 l1 (dg 65536 v) (dg 65536 w)) (fun k => ?_) hfin
      rw [vernierlaw02_NatdivTells.j0, if_pos rfl, if_pos rfl, if_pos rfl, w00, if_neg (by decide)]
    by_cases h1 : a2 < 0
    · exact Ev.congr (fun k => if_pos h1) hj
    · refine Ev.congr (fun k => (if_neg h1).trans ?_) hj
      rw [decide_eq_true (show a2 > 65536 by omega)]
  · obtain ⟨n, rfl⟩ := Int.eq_ofNat_of_zero_le (show 0 ≤ a2 by omega)
    obtain ⟨e1, m1⟩ := n0.Shl n (by omega) (by omega)
    obtain ⟨e2, m2⟩ := n0.Shr n (by omega) (by omega)
    obtain ⟨e3, m3⟩ := d0.shl n (by omega) (by omega)
    obtain ⟨e4, m4⟩ := d0.shr n (by omega) (by omega)
    refine Ev.bind e1 (Ev.bind e2 ?_)
    refine Ev.congr (fun k => if_neg (by omega)) ?_
    rw [decide_eq_false (show ¬ ((n : Int) > 65536) by omega)]
    refine Ev.step (f := fun k => (vernierref01_Shl.f k (dg 65536 v) (n : Int)).bind fun t415 => ((vernierref01_Limbs.f k t415).bind fun t418 => ((vernierref01_Same.f k (dg 18446744073709551616 (2 ^ n * v)) t418).bind fun t421 => (if t421 = true then ((vernierref01_Shr.f k (dg 65536 v) (n : Int)).bind fun t422 => ((vernierref01_Limbs.f k t422).bind fun t425 => ((vernierref01_Same.f k (dg 18446744073709551616 (v / 2 ^ n)) t425).bind fun t428 => (if t428 = true then (vernierlaw02_NatdivTells.j1 k l0 l1 (dg 65536 v) (dg 65536 w)) else (some false))))) else (some false))))) (fun k => ?_) ?_
    · rw [vernierlaw02_NatdivTells.j0, if_neg (by decide), if_pos rfl, if_pos rfl]
    · refine Ev.bind e3 (Ev.bind (m3.limbs (by omega)) (Ev.bind (m1.same rfl (by omega)) (Ev.congr (fun k => if_pos rfl) ?_)))
      exact Ev.bind e4 (Ev.bind (m4.limbs (by omega)) (Ev.bind (m2.same rfl (by omega)) (Ev.congr (fun k => if_pos rfl) hfin)))
end Go.Proofs.Ytfmdjhfnbiekaaa.Pure
