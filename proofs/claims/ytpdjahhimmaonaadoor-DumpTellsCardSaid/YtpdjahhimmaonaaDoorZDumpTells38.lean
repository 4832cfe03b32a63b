/- nat's functions over lists of which the value and a bound of the length are known. -/
import Derived.Test.YtpdjahhimmaonaaDoorZDumpTells34
namespace Go.Proofs.YtpdjahhimmaonaaDoor.PD
open Go.RowKit Go.Proofs.YtpdjahhimmaonaaDoorW.PrintWords Go.Proofs.YtpdjahhimmaonaaDoorW.PrintLast Go.Proofs.YtpdjahhimmaonaaDoor.Num
set_option linter.unusedVariables false
structure Nm (a : List Int) (v : Int) (n : Nat) : Prop where
  dig : Dig 18446744073709551616 a
  val : V 18446744073709551616 a = v
  len : a.length ≤ n
theorem Nm.nonneg {a v n} (h : Nm a v n) : 0 ≤ v := h.val ▸ V_nonneg B_pos h.dig
theorem Nm.lt {a v n} (h : Nm a v n) : v < 18446744073709551616 ^ n := h.val ▸ Int.lt_of_lt_of_le (V_lt B_pos h.dig) (pow_le B_pos h.len)
theorem Nm.dg {v : Int} {n : Nat} (h0 : 0 ≤ v) (h1 : v < 18446744073709551616 ^ n) : Nm (dg 18446744073709551616 v) v n := ⟨dg_dig one_lt_B v, dg_val one_lt_B h0, dg_len_le one_lt_B h0 h1⟩
theorem Nm.mono {a v n m} (h : Nm a v n) (hm : n ≤ m) : Nm a v m := ⟨h.dig, h.val, Nat.le_trans h.len hm⟩
theorem Nm.nil {n} : Nm [] 0 n := ⟨Dig.nil _, rfl, by simp⟩
theorem Nm.add {a b v w n m} (p : Nat) (h : Nm a v n) (g : Nm b w m) (hn : n ≤ p) (hm : m ≤ p) (hp : p < 35184372088832) : Ev (fun k => nat_Add.f k a b) (Num.dg 18446744073709551616 (v + w)) ∧ Nm (Num.dg 18446744073709551616 (v + w)) (v + w) (p + 1) := by
  have h1 := h.len
  have h2 := g.len
  have e := add_ev a b h.dig g.dig (by omega) (by omega)
  rw [h.val, g.val] at e
  have l1 := (h.mono hn).lt
  have l2 := (g.mono hm).lt
  have n1 := h.nonneg
  have n2 := g.nonneg
  have pp := pow_pos' B_pos p
  refine ⟨e, Nm.dg (by omega) ?_⟩
  rw [Int.pow_succ]
  omega
theorem Nm.bits {a v n} (h : Nm a v n) (hn : n ≤ 35184372088832) : Ev (fun k => nat_Bits.f k a) (bitsOf v) := by
  have h1 := h.len
  have e := bits_ev a h.dig (by omega)
  rwa [h.val] at e
theorem Nm.same {v w : Int} {n : Nat} (e : v = w) (h : Nm (Num.dg 18446744073709551616 v) v n) (hn : n ≤ 4611686018427387904) : Ev (fun k => vernierref01_Same.f k (Num.dg 18446744073709551616 v) (Num.dg 18446744073709551616 w)) true :=
  same_true (by rw [e]) (Nat.le_trans h.len hn)
end Go.Proofs.YtpdjahhimmaonaaDoor.PD
