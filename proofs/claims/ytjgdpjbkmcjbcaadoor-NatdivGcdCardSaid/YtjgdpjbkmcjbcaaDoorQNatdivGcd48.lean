/- What natdiv.Gcd computes: the greatest common divisor. -/
import Derived.Test.YtjgdpjbkmcjbcaaDoorQNatdivGcd35
import Derived.Test.YtjgdpjbkmcjbcaaDoorQNatdivGcd39
import Derived.Test.YtjgdpjbkmcjbcaaDoorQNatdivGcd45
import Derived.Test.YtjgdpjbkmcjbcaaDoorQNatdivGcd47
import Derived.Test.YtjgdpjbkmcjbcaaDoorQNatdivGcd40
import Derived.Test.YtjgdpjbkmcjbcaaDoorQNatdivGcd41
import Derived.Test.YtjgdpjbkmcjbcaaDoorQNatdivGcd42
import Derived.Test.YtjgdpjbkmcjbcaaDoorQNatdivGcd43
import Derived.Test.YtjgdpjbkmcjbcaaDoorQNatdivGcd46
namespace Go.Proofs.YtjgdpjbkmcjbcaaDoor.PD
open Go.RowKit Go.Proofs.YtjgdpjbkmcjbcaaDoorW.PrintWords Go.Proofs.YtjgdpjbkmcjbcaaDoorW.PrintLast Go.Proofs.YtjgdpjbkmcjbcaaDoorW.PrintMore Go.Proofs.YtjgdpjbkmcjbcaaDoor.Num
set_option linter.unusedVariables false
set_option linter.unusedSimpArgs false
theorem gcd_loop {n : Nat} (hn : n < 100000000000) : ∀ (y x : Nat), Nm (dg 18446744073709551616 (x : Int)) (x : Int) n → Nm (dg 18446744073709551616 (y : Int)) (y : Int) n →
    Ev (fun k => natdiv_Gcd.l0 k (dg 18446744073709551616 (x : Int)) (dg 18446744073709551616 (y : Int))) (dg 18446744073709551616 ((Nat.gcd x y : Nat) : Int))
  | y, x, hx, hy => by
    by_cases h0 : y = 0
    · subst h0
      refine Ev.step (f := fun _ => some (dg 18446744073709551616 (x : Int))) (fun k => ?_) ?_
      · have e : dg 18446744073709551616 ((0 : Nat) : Int) = [] := rfl
        rw [natdiv_Gcd.l0, e, if_neg (by decide)]
      · rw [Nat.gcd_zero_right]
        exact Ev.now _
    · obtain ⟨e1, _, n1⟩ := hx.divmod hy (by omega) hn hn
      have em : ((x : Int) % (y : Int)) = ((x % y : Nat) : Int) := by omega
      rw [em] at e1 n1
      have hlt : x % y < y := Nat.mod_lt _ (by omega)
      have hne : (dg 18446744073709551616 (y : Int)).length ≠ 0 := fun e => by
        have := (dg_nil one_lt_B (by omega)).1 (List.length_eq_zero_iff.1 e)
        omega
      have hrec := gcd_loop hn (x % y) y hy n1
      rw [show Nat.gcd y (x % y) = Nat.gcd x y by rw [Nat.gcd_comm x y, Nat.gcd_rec y x, Nat.gcd_comm]] at hrec
      refine Ev.step (f := fun k => (natdiv_DivMod.f k (dg 18446744073709551616 (x : Int)) (dg 18446744073709551616 (y : Int))).bind fun bt => natdiv_Gcd.l0 k (dg 18446744073709551616 (y : Int)) bt.2.1) (fun k => ?_) (Ev.bind e1 hrec)
      rw [natdiv_Gcd.l0, if_pos (by omega)]
  termination_by y => y
theorem Nm.gcd {a b v w n m} (p : Nat) (h : Nm a v n) (g : Nm b w m) (hn : n ≤ p) (hm : m ≤ p) (hp : p < 100000000000) :
    Ev (fun k => natdiv_Gcd.f k a b) (Num.dg 18446744073709551616 ((Int.gcd v w : Nat) : Int)) := by
  obtain ⟨e1, n1⟩ := h.norm (by omega)
  obtain ⟨e2, n2⟩ := g.norm (by omega)
  obtain ⟨x, rfl⟩ := Int.eq_ofNat_of_zero_le h.nonneg
  obtain ⟨y, rfl⟩ := Int.eq_ofNat_of_zero_le g.nonneg
  unfold natdiv_Gcd.f
  exact Ev.bind e1 (Ev.bind e2 (gcd_loop hp y x (n1.mono hn) (n2.mono hm)))
end Go.Proofs.YtjgdpjbkmcjbcaaDoor.PD
