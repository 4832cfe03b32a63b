/- nat's functions over lists of which the value and a bound of the length are known. -/
import Derived.Test.YtjgdpjbkmcjbcaaDoorQNatdivGcd39
import Derived.Test.YtjgdpjbkmcjbcaaDoorQNatdivGcd40
import Derived.Test.YtjgdpjbkmcjbcaaDoorQNatdivGcd41
import Derived.Test.YtjgdpjbkmcjbcaaDoorQNatdivGcd42
namespace Go.Proofs.YtjgdpjbkmcjbcaaDoor.PD
open Go.RowKit Go.Proofs.YtjgdpjbkmcjbcaaDoorW.PrintWords Go.Proofs.YtjgdpjbkmcjbcaaDoorW.PrintLast Go.Proofs.YtjgdpjbkmcjbcaaDoor.Num
set_option linter.unusedVariables false
structure Nm (a : List Int) (v : Int) (n : Nat) : Prop where
  dig : Dig 18446744073709551616 a
  val : V 18446744073709551616 a = v
  len : a.length ≤ n
theorem Nm.nonneg {a v n} (h : Nm a v n) : 0 ≤ v := h.val ▸ V_nonneg B_pos h.dig
theorem Nm.lt {a v n} (h : Nm a v n) : v < 18446744073709551616 ^ n := h.val ▸ Int.lt_of_lt_of_le (V_lt B_pos h.dig) (pow_le B_pos h.len)
theorem Nm.of_wf {l : List Int} {n : Nat} (h : ∀ x ∈ l, (Lit.int .u64 x).wf = true) (hl : l.length ≤ n) : Nm l (V 18446744073709551616 l) n := ⟨dig_of_wf h, rfl, hl⟩
theorem Nm.dg {v : Int} {n : Nat} (h0 : 0 ≤ v) (h1 : v < 18446744073709551616 ^ n) : Nm (dg 18446744073709551616 v) v n := ⟨dg_dig one_lt_B v, dg_val one_lt_B h0, dg_len_le one_lt_B h0 h1⟩
theorem Nm.dg_le {a v n w} (h : Nm a v n) (h0 : 0 ≤ w) (h1 : w ≤ v) : Nm (Num.dg 18446744073709551616 w) w n := Nm.dg h0 (Int.lt_of_le_of_lt h1 h.lt)
theorem Nm.mono {a v n m} (h : Nm a v n) (hm : n ≤ m) : Nm a v m := ⟨h.dig, h.val, Nat.le_trans h.len hm⟩
theorem Nm.nil {n} : Nm [] 0 n := ⟨Dig.nil _, rfl, by simp⟩
theorem Nm.one {x : Int} {n : Nat} (h0 : 0 ≤ x) (h1 : x < 18446744073709551616) (hn : 1 ≤ n) : Nm [x] x n := ⟨Dig.cons h0 h1 (Dig.nil _), by simp [V], by simpa using hn⟩
theorem Nm.add {a b v w n m} (p : Nat) (h : Nm a v n) (g : Nm b w m) (hn : n ≤ p) (hm : m ≤ p) (hp : p < 35184372088832) : Ev (fun k => nat_Add.f k a b) (Num.dg 18446744073709551616 (v + w)) ∧ Nm (Num.dg 18446744073709551616 (v + w)) (v + w) (p + 1) := by
  have h1 := h.len
  have h2 := g.len
  have e := add_ev a b h.dig g.dig (by omega) (by omega)
  rw [h.val, g.val] at e
  have l1 := (h.mono hn).lt
  have l2 := (g.mono hm).lt
  have n1 := h.nonneg
  have n2 := g.nonneg
  have pp := pow_pos' B_pos p
  refine ⟨e, Nm.dg (by omega) ?_⟩
  rw [Int.pow_succ]
  omega
theorem Nm.sub_le {a b v w n m} (h : Nm a v n) (g : Nm b w m) (hwv : w ≤ v) (hn : n < 35184372088832) (hm : m < 35184372088832) : Ev (fun k => nat_Sub.f k a b) (Num.dg 18446744073709551616 (v - w)) ∧ Nm (Num.dg 18446744073709551616 (v - w)) (v - w) n := by
  have h1 := h.len
  have h2 := g.len
  have e := sub_ev a b h.dig g.dig (by omega) (by omega)
  have n2 := g.nonneg
  rw [h.val, g.val, Int.natAbs_of_nonneg (by omega)] at e
  exact ⟨e, h.dg_le (by omega) (by omega)⟩
theorem Nm.mul {a b v w n m} (h : Nm a v n) (g : Nm b w m) (hp : n + m < 35184372088832) : Ev (fun k => nat_Mul.f k a b) (Num.dg 18446744073709551616 (v * w)) ∧ Nm (Num.dg 18446744073709551616 (v * w)) (v * w) (n + m) := by
  have h1 := h.len
  have h2 := g.len
  have e := mul_ev a b h.dig g.dig (by omega)
  rw [h.val, g.val] at e
  have n1 := h.nonneg
  have n2 := g.nonneg
  refine ⟨e, Nm.dg (Int.mul_nonneg n1 n2) ?_⟩
  rw [Int.pow_add]
  have l1 := h.lt
  have l2 := g.lt
  have pp := pow_pos' B_pos n
  calc v * w ≤ v * 18446744073709551616 ^ m := Int.mul_le_mul_of_nonneg_left (by omega) n1
    _ < 18446744073709551616 ^ n * 18446744073709551616 ^ m := Int.mul_lt_mul_of_pos_right l1 (pow_pos' B_pos m)
theorem Nm.norm {a v n} (h : Nm a v n) (hp : n ≤ 17592186044416) : Ev (fun k => nat_Norm.f k a) (Num.dg 18446744073709551616 v) ∧ Nm (Num.dg 18446744073709551616 v) v n := by
  have h1 := h.len
  have e := norm_ev a (by omega) h.dig
  rw [h.val] at e
  exact ⟨e, h.dg_le h.nonneg (Int.le_refl _)⟩
theorem Nm.cmp {a b v w n m} (h : Nm a v n) (g : Nm b w m) (hn : n ≤ 4611686018427387904) (hm : m ≤ 4611686018427387904) : Ev (fun k => nat_Cmp.f k a b) (sgn (v - w)) := by
  have h1 := h.len
  have h2 := g.len
  have e := cmp_ev a b h.dig g.dig (by omega) (by omega)
  rwa [h.val, g.val] at e
theorem Nm.bits {a v n} (h : Nm a v n) (hn : n ≤ 35184372088832) : Ev (fun k => nat_Bits.f k a) (bitsOf v) := by
  have h1 := h.len
  have e := bits_ev a h.dig (by omega)
  rwa [h.val] at e
theorem Nm.even {a v n} (h : Nm a v n) : nat_Even.f a = some (decide (v % 2 = 0)) := by
  rw [even_some a h.dig, h.val]
theorem Nm.same {v w : Int} {n : Nat} (e : v = w) (h : Nm (Num.dg 18446744073709551616 v) v n) (hn : n ≤ 4611686018427387904) : Ev (fun k => vernierref01_Same.f k (Num.dg 18446744073709551616 v) (Num.dg 18446744073709551616 w)) true :=
  same_true (by rw [e]) (Nat.le_trans h.len hn)
end Go.Proofs.YtjgdpjbkmcjbcaaDoor.PD
