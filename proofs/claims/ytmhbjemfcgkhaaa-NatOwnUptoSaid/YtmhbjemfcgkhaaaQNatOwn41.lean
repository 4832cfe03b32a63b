/- What nat is handed stays, and what it tells shares nothing with it: for all lists of at most 1048576 words. -/
import Derived.Test.YtmhbjemfcgkhaaaQNatOwn29
import Derived.Test.YtmhbjemfcgkhaaaQNatOwn30
import Derived.Test.YtmhbjemfcgkhaaaQNatOwn31
import Derived.Test.YtmhbjemfcgkhaaaQNatOwn32
import Derived.Test.YtmhbjemfcgkhaaaQNatOwn36
import Derived.Test.YtmhbjemfcgkhaaaQNatOwn37
import Derived.Test.YtmhbjemfcgkhaaaQNatOwn38
import Derived.Test.YtmhbjemfcgkhaaaQNatOwn39
import Derived.Test.YtmhbjemfcgkhaaaQNatOwn40
namespace Go.Proofs.Ytmhbjemfcgkhaaa.Pure
open Go.RowKit Go.Proofs.Ytmhbjemfcgkhaaa.PA Go.Proofs.YtmhbjemfcgkhaaaW.PrintWords Go.Proofs.YtmhbjemfcgkhaaaW.PrintLast Go.Proofs.Ytmhbjemfcgkhaaa.Num
set_option linter.unusedVariables false
theorem own_l1 (l0 l1 : List Int) (n0 : Nm l0 (V 18446744073709551616 l0) 1048576) (n1 : Nm l1 (V 18446744073709551616 l1) 1048576) (x s : List Int) (hx : x = dg 18446744073709551616 (V 18446744073709551616 l0)) (hs : s = dg 18446744073709551616 (V 18446744073709551616 l0 + V 18446744073709551616 l1)) : ∀ (d i : Nat), i + d = 4 →
    Ev (fun k => vernierlaw01_NatOwn.l1 k l0 l1 [x, x, x, x, s] true (i : Int)) true
  | 0, i, hi => by
    obtain rfl : i = 4 := by omega
    obtain ⟨e1, d0⟩ := n0.of (by omega)
    obtain ⟨e2, d1⟩ := n1.of (by omega)
    obtain ⟨e3, m3⟩ := d0.add 4194304 d1 (by omega) (by omega) (by omega)
    obtain ⟨e4, m4⟩ := n0.add 1048576 n1 (by omega) (by omega) (by omega)
    refine Ev.step (fun k => by
      simp only [vernierlaw01_NatOwn.l1]
      rw [if_neg (by omega), if_pos trivial, if_pos (by simp only [List.length_cons, List.length_nil]; omega)]) ?_
    refine Ev.bind e1 (Ev.bind e2 (Ev.bind e3 (Ev.bind (m3.limbs (by omega)) ?_)))
    rw [show rd_L2 [x, x, x, x, s] 4 = s from rfl, hs]
    exact Ev.bind (m4.same rfl (by omega)) (Ev.now _)
  | d + 1, i, hi => by
    obtain ⟨e1, d0⟩ := n0.of (by omega)
    obtain ⟨e2, m2⟩ := n0.norm (by omega)
    have ew : Aside0 (wrap64 ((i : Int) + 1) = ((i + 1 : Nat) : Int)) := ⟨by rw [w64 (by omega) (by omega)]; omega⟩
    have er : rd_L2 [x, x, x, x, s] (i : Int) = x := by
      have : i = 0 ∨ i = 1 ∨ i = 2 ∨ i = 3 := by omega
      rcases this with rfl | rfl | rfl | rfl <;> rfl
    have nx := own_l1 l0 l1 n0 n1 x s hx hs d (i + 1) (by omega)
    refine Ev.step (fun k => by
      simp only [vernierlaw01_NatOwn.l1]
      rw [if_pos (by omega), if_pos (by omega), if_pos (by simp only [List.length_cons, List.length_nil]; omega), er, ew.out]) ?_
    refine Ev.bind e1 (Ev.bind (d0.limbs (by omega)) (Ev.bind (by rw [hx]; exact m2.same rfl (by omega)) (Ev.congr (fun k => if_pos rfl) nx)))
theorem own_l0 (l0 l1 : List Int) (L : List (List Int)) (h : Ev (fun k => vernierlaw01_NatOwn.l1 k l0 l1 L true 0) true) : ∀ (d i : Nat) (x : List Int), x.length = i + d → x.length ≤ 1048576 → Ev (fun k => vernierlaw01_NatOwn.l0 k l0 l1 x L true (i : Int)) true
  | 0, i, x, hi, hl => by
    refine Ev.step (fun k => ?_) h
    simp only [vernierlaw01_NatOwn.l0]
    rw [if_neg (by omega)]
  | d + 1, i, x, hi, hl => by
    have ew : Aside0 (wrap64 ((i : Int) + 1) = ((i + 1 : Nat) : Int)) := ⟨by rw [w64 (by omega) (by omega)]; omega⟩
    refine Ev.step (fun k => ?_) (own_l0 l0 l1 L h d (i + 1) (x.set i (IntKind.u64.wrap (rd x (i : Int) + 1))) (by simp; omega) (by simpa using hl))
    simp only [vernierlaw01_NatOwn.l0]
    rw [if_pos (by omega), if_pos (by omega), ew.out, Int.toNat_natCast]
theorem NatOwn (l0 l1 : List Int) (y0 : l0.length ≤ 1048576) (w0 : ∀ n ∈ l0, (Lit.int .u64 n).wf = true) (y1 : l1.length ≤ 1048576) (w1 : ∀ n ∈ l1, (Lit.int .u64 n).wf = true) : ∃ k, vernierlaw01_NatOwn.f k l0 l1 = some true := by
  have n0 := Nm.of_wf w0 y0
  have n1 := Nm.of_wf w1 y1
  have a0 := n0.nonneg
  refine Ev.rounds ?_
  unfold vernierlaw01_NatOwn.f
  refine Ev.bind alive1_ev (Ev.congr (fun k => if_pos rfl) ?_)
  refine Ev.bind (Ev.now ([] : List Int)) ?_
  refine Ev.congr (fun k => if_pos (by simp only [List.length_nil]; omega)) ?_
  refine Ev.bind (Ev.now ([] ++ l0)) ?_
  rw [List.nil_append]
  obtain ⟨e1, m1⟩ := n0.norm (by omega)
  obtain ⟨e2, m2⟩ := n0.add 1048576 (Nm.nil (n := 0)) (by omega) (by omega) (by omega)
  obtain ⟨e3, m3⟩ := n0.sub_le (Nm.nil (n := 0)) (by omega) (by omega) (by omega)
  obtain ⟨e4, m4⟩ := n0.mul (Nm.one (x := 1) (n := 1) (by omega) (by omega) (by omega)) (by omega)
  obtain ⟨e5, m5⟩ := n0.add 1048576 n1 (by omega) (by omega) (by omega)
  refine Ev.bind e1 (Ev.bind e2 (Ev.bind e3 (Ev.bind e4 (Ev.bind e5 (Ev.bind (same_true rfl (by omega)) ?_)))))
  rw [Int.add_zero, Int.sub_zero, Int.mul_one]
  exact own_l0 l0 l1 _ (own_l1 l0 l1 n0 n1 _ _ rfl rfl 4 0 rfl) l0.length 0 l0 (by omega) y0
end Go.Proofs.Ytmhbjemfcgkhaaa.Pure
