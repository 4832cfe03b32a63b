/- nat's answers are as of plain digits: for all lists of at most 1048576 words. -/
import Derived.Test.YtmhbjemfcgkhaaaQNatTells32
import Derived.Test.YtmhbjemfcgkhaaaQNatTells33
import Derived.Test.YtmhbjemfcgkhaaaQNatTells34
import Derived.Test.YtmhbjemfcgkhaaaQNatTells35
import Derived.Test.YtmhbjemfcgkhaaaQNatTells36
import Derived.Test.YtmhbjemfcgkhaaaQNatTells37
import Derived.Test.YtmhbjemfcgkhaaaQNatTells38
import Derived.Test.YtmhbjemfcgkhaaaQNatTells39
import Derived.Test.YtmhbjemfcgkhaaaQNatTells40
namespace Go.Proofs.Ytmhbjemfcgkhaaa.Pure
open Go.RowKit Go.Proofs.Ytmhbjemfcgkhaaa.PA Go.Proofs.YtmhbjemfcgkhaaaW.PrintWords Go.Proofs.YtmhbjemfcgkhaaaW.PrintLast Go.Proofs.Ytmhbjemfcgkhaaa.Num
set_option linter.unusedVariables false
theorem NatTells (l0 l1 : List Int) (y0 : l0.length ≤ 1048576) (w0 : ∀ n ∈ l0, (Lit.int .u64 n).wf = true) (y1 : l1.length ≤ 1048576) (w1 : ∀ n ∈ l1, (Lit.int .u64 n).wf = true) : ∃ k, vernierlaw01_NatTells.f k l0 l1 = some true := by
  have n0 := Nm.of_wf w0 y0
  have n1 := Nm.of_wf w1 y1
  generalize V 18446744073709551616 l0 = a at n0
  generalize V 18446744073709551616 l1 = b at n1
  have a0 := n0.nonneg
  have b0 := n1.nonneg
  refine Ev.rounds ?_
  unfold vernierlaw01_NatTells.f
  obtain ⟨e1, d0⟩ := n0.of (by omega)
  obtain ⟨e2, d1⟩ := n1.of (by omega)
  have key : Ev (fun k => vernierlaw01_NatTells.j0 k l0 l1 (dg 65536 a) (dg 65536 b) (decide (a % 2 = 0))) true := by
    obtain ⟨f1, m1⟩ := n0.add 1048576 n1 (by omega) (by omega) (by omega)
    obtain ⟨f2, m2⟩ := d0.add 4194304 d1 (by omega) (by omega) (by omega)
    obtain ⟨f3, m3⟩ := n0.sub 1048576 n1 (by omega) (by omega) (by omega)
    obtain ⟨f4, m4⟩ := d0.sub 4194304 d1 (by omega) (by omega) (by omega)
    obtain ⟨f5, m5⟩ := n0.mul n1 (by omega)
    obtain ⟨f6, m6⟩ := d0.mul d1 (by omega)
    obtain ⟨f7, m7⟩ := n0.norm (by omega)
    refine Ev.step (fun k => by simp only [vernierlaw01_NatTells.j0]; rfl) ?_
    refine Ev.bind f1 (Ev.bind f2 (Ev.bind (m2.limbs (by omega)) (Ev.bind (m1.same rfl (by omega)) (Ev.congr (fun k => if_pos rfl) ?_))))
    refine Ev.bind f3 (Ev.bind f4 (Ev.bind (m4.limbs (by omega)) (Ev.bind (m3.same rfl (by omega)) (Ev.congr (fun k => if_pos rfl) ?_))))
    refine Ev.bind f5 (Ev.bind f6 (Ev.bind (m6.limbs (by omega)) (Ev.bind (m5.same rfl (by omega)) (Ev.congr (fun k => if_pos rfl) ?_))))
    refine Ev.bind (n0.cmp n1 (by omega) (by omega)) (Ev.bind (d0.cmp d1 (by omega) (by omega)) (Ev.congr (fun k => if_pos rfl) ?_))
    refine Ev.bind (n0.bits (by omega)) (Ev.bind (d0.bits (by omega)) (Ev.congr (fun k => if_pos rfl) ?_))
    rw [n0.even]
    simp only [Option.bind_some]
    refine Ev.congr (fun k => if_pos (by simp)) ?_
    refine Ev.bind f7 (Ev.bind (d0.limbs (by omega)) (Ev.bind (m7.same rfl (by omega)) (Ev.congr (fun k => if_pos rfl) ?_)))
    exact Ev.bind alive1_ev (Ev.now _)
  refine Ev.bind e1 (Ev.bind e2 ?_)
  by_cases h : (dg 65536 a).length = 0
  · refine Ev.congr (fun k => if_pos (by omega)) ?_
    have hz : dg 65536 a = [] := List.length_eq_zero_iff.1 h
    have ha : a = 0 := (dg_nil one_lt_D a0).1 hz
    have e : (true : Bool) = decide (a % 2 = 0) := by rw [ha]; rfl
    refine Ev.congr (fun k => ?_) key
    rw [← e]
  · refine Ev.congr (fun k => (if_neg (by omega)).trans (if_pos (by omega))) ?_
    have g := d0.nrm.1.getD D_pos 0
    have e : (Int.tmod (rd (dg 65536 a) 0) 2 == 0) = decide (a % 2 = 0) := by
      rw [show (0 : Int) = ((0 : Nat) : Int) from rfl, rd_nat, tmod_nn g.1, ← V_mod (B := 65536) (m := 2) (by decide), d0.val]
      rfl
    rw [e]
    exact key
end Go.Proofs.Ytmhbjemfcgkhaaa.Pure
