/- Parts of a proof. -/
import Derived.Test.YtkjhjlnjkohlbaaZRatioOf43
import Derived.Lib.EndianBits
section
namespace Go.Proofs.Ytkjhjlnjkohlbaa.PR
open Go.RowKit Go.Proofs.YtkjhjlnjkohlbaaW.PrintWords Go.Proofs.YtkjhjlnjkohlbaaW.PrintLast Go.Proofs.Ytkjhjlnjkohlbaa.Num
set_option linter.unusedVariables false
structure Nm (a : List Int) (v : Int) (n : Nat) : Prop where
 dig : Dig 18446744073709551616 a
 val : V 18446744073709551616 a = v
 len : a.length ≤ n
theorem Nm.nonneg {a v n} (h : Nm a v n) : 0 ≤ v := h.val ▸ V_nonneg B_pos h.dig
theorem Nm.lt {a v n} (h : Nm a v n) : v < 18446744073709551616 ^ n := h.val ▸ Int.lt_of_lt_of_le (V_lt B_pos h.dig) (pow_le B_pos h.len)
theorem Nm.of_wf {l : List Int} {n : Nat} (h : ∀ x ∈ l, (Lit.int .u64 x).wf = true) (hl : l.length ≤ n) : Nm l (V 18446744073709551616 l) n := ⟨dig_of_wf h, rfl, hl⟩
theorem Nm.dg {v : Int} {n : Nat} (h0 : 0 ≤ v) (h1 : v < 18446744073709551616 ^ n) : Nm (dg 18446744073709551616 v) v n := ⟨dg_dig one_lt_B v, dg_val one_lt_B h0, dg_len_le one_lt_B h0 h1⟩
theorem Nm.dg_le {a v n w} (h : Nm a v n) (h0 : 0 ≤ w) (h1 : w ≤ v) : Nm (Num.dg 18446744073709551616 w) w n := Nm.dg h0 (Int.lt_of_le_of_lt h1 h.lt)
theorem Nm.mono {a v n m} (h : Nm a v n) (hm : n ≤ m) : Nm a v m := ⟨h.dig, h.val, Nat.le_trans h.len hm⟩
theorem Nm.one {x : Int} {n : Nat} (h0 : 0 ≤ x) (h1 : x < 18446744073709551616) (hn : 1 ≤ n) : Nm [x] x n := ⟨Dig.cons h0 h1 (Dig.nil _), by simp [V], by simpa using hn⟩
theorem Nm.add {a b v w n m} (p : Nat) (h : Nm a v n) (g : Nm b w m) (hn : n ≤ p) (hm : m ≤ p) (hp : p < 35184372088832) : Ev (fun k => nat_Add.f k a b) (Num.dg 18446744073709551616 (v + w)) ∧ Nm (Num.dg 18446744073709551616 (v + w)) (v + w) (p + 1) := by
 have h1 := h.len
 have h2 := g.len
 have e := add_ev a b h.dig g.dig (by omega) (by omega)
 rw [h.val, g.val] at e
 have l1 := (h.mono hn).lt
 have l2 := (g.mono hm).lt
 have n1 := h.nonneg
 have n2 := g.nonneg
 have pp := pow_pos' B_pos p
 refine ⟨e, Nm.dg (by omega) ?_⟩
 rw [Int.pow_succ]
 omega
theorem Nm.sub {a b v w n m} (p : Nat) (h : Nm a v n) (g : Nm b w m) (hn : n ≤ p) (hm : m ≤ p) (hp : p < 35184372088832) : Ev (fun k => nat_Sub.f k a b) (Num.dg 18446744073709551616 ((v - w).natAbs : Int)) ∧ Nm (Num.dg 18446744073709551616 ((v - w).natAbs : Int)) ((v - w).natAbs : Int) p := by
 have h1 := h.len
 have h2 := g.len
 have e := sub_ev a b h.dig g.dig (by omega) (by omega)
 rw [h.val, g.val] at e
 have l1 := (h.mono hn).lt
 have l2 := (g.mono hm).lt
 have n1 := h.nonneg
 have n2 := g.nonneg
 exact ⟨e, Nm.dg (by omega) (by omega)⟩
theorem Nm.sub_le {a b v w n m} (h : Nm a v n) (g : Nm b w m) (hwv : w ≤ v) (hn : n < 35184372088832) (hm : m < 35184372088832) : Ev (fun k => nat_Sub.f k a b) (Num.dg 18446744073709551616 (v - w)) ∧ Nm (Num.dg 18446744073709551616 (v - w)) (v - w) n := by
 have h1 := h.len
 have h2 := g.len
 have e := sub_ev a b h.dig g.dig (by omega) (by omega)
 have n2 := g.nonneg
 rw [h.val, g.val, Int.natAbs_of_nonneg (by omega)] at e
 exact ⟨e, h.dg_le (by omega) (by omega)⟩
theorem Nm.mul {a b v w n m} (h : Nm a v n) (g : Nm b w m) (hp : n + m < 35184372088832) : Ev (fun k => nat_Mul.f k a b) (Num.dg 18446744073709551616 (v * w)) ∧ Nm (Num.dg 18446744073709551616 (v * w)) (v * w) (n + m) := by
 have h1 := h.len
 have h2 := g.len
 have e := mul_ev a b h.dig g.dig (by omega)
 rw [h.val, g.val] at e
 have n1 := h.nonneg
 have n2 := g.nonneg
 refine ⟨e, Nm.dg (Int.mul_nonneg n1 n2) ?_⟩
 rw [Int.pow_add]
 have l1 := h.lt
 have l2 := g.lt
 have pp := pow_pos' B_pos n
 calc v * w ≤ v * 18446744073709551616 ^ m := Int.mul_le_mul_of_nonneg_left (by omega) n1
  _ < 18446744073709551616 ^ n * 18446744073709551616 ^ m := Int.mul_lt_mul_of_pos_right l1 (pow_pos' B_pos m)
theorem Nm.norm {a v n} (h : Nm a v n) (hp : n ≤ 17592186044416) : Ev (fun k => nat_Norm.f k a) (Num.dg 18446744073709551616 v) ∧ Nm (Num.dg 18446744073709551616 v) v n := by
 have h1 := h.len
 have e := norm_ev a (by omega) h.dig
 rw [h.val] at e
 exact ⟨e, h.dg_le h.nonneg (Int.le_refl _)⟩
theorem Nm.cmp {a b v w n m} (h : Nm a v n) (g : Nm b w m) (hn : n ≤ 4611686018427387904) (hm : m ≤ 4611686018427387904) : Ev (fun k => nat_Cmp.f k a b) (sgn (v - w)) := by
 have h1 := h.len
 have h2 := g.len
 have e := cmp_ev a b h.dig g.dig (by omega) (by omega)
 rwa [h.val, g.val] at e
theorem Nm.bits {a v n} (h : Nm a v n) (hn : n ≤ 35184372088832) : Ev (fun k => nat_Bits.f k a) (bitsOf v) := by
 have h1 := h.len
 have e := bits_ev a h.dig (by omega)
 rwa [h.val] at e
theorem Nm.same {v w : Int} {n : Nat} (e : v = w) (h : Nm (Num.dg 18446744073709551616 v) v n) (hn : n ≤ 4611686018427387904) : Ev (fun k => vernierref01_Same.f k (Num.dg 18446744073709551616 v) (Num.dg 18446744073709551616 w)) true :=
 same_true (by rw [e]) (Nat.le_trans h.len hn)
end Go.Proofs.Ytkjhjlnjkohlbaa.PR
end
section
namespace Go.Proofs.Ytkjhjlnjkohlbaa.PR
open Go.RowKit Go.Proofs.YtkjhjlnjkohlbaaW.PrintWords Go.Proofs.YtkjhjlnjkohlbaaW.PrintLast Go.Proofs.YtkjhjlnjkohlbaaW.PrintMore Go.Proofs.Ytkjhjlnjkohlbaa.Num
set_option linter.unusedVariables false
set_option linter.unusedSimpArgs false
theorem ediv_two {x y z : Int} (hy : 0 < y) : x / y / z = x / (y * z) := by rw [Int.ediv_ediv, if_neg (by omega), Int.sub_zero]
theorem gpast {l : List Int} {n : Nat} (h : l.length ≤ n) : l.getD n 0 = 0 := by rw [List.getD_eq_getElem?_getD, List.getElem?_eq_none h]; rfl
theorem two64 {s : Nat} (hs : s ≤ 64) : (2 : Int) ^ s * 2 ^ (64 - s) = 18446744073709551616 := by
 rw [← Int.pow_add, show s + (64 - s) = 64 by omega]
 decide
theorem mod_shift {P Q x : Int} (hP : 0 < P) (hQ : 0 < Q) (h : P * Q = 18446744073709551616) (h0 : 0 ≤ x) : x * P % 18446744073709551616 = P * (x % Q) := by
 have e := Int.emod_add_mul_ediv x Q
 have m0 := Int.emod_nonneg x (show Q ≠ 0 by omega)
 have m1 := Int.emod_lt_of_pos x hQ
 have e1 : x * P = P * (x % Q) + 18446744073709551616 * (x / Q) := by
  rw [← h]
  have : P * (x % Q + Q * (x / Q)) = P * x := by rw [e]
  grind
 rw [e1, Int.add_mul_emod_self_left, Int.emod_eq_of_lt (Int.mul_nonneg (by omega) m0)]
 have : P * (x % Q) ≤ P * (Q - 1) := Int.mul_le_mul_of_nonneg_left (by omega) (by omega)
 have e2 : P * (Q - 1) = 18446744073709551616 - P := by rw [Int.mul_sub, h, Int.mul_one]
 omega
theorem div_two (x : Int) (s : Nat) (hs : s < 64) : x / 2 / 2 ^ (63 - s) = x / 2 ^ (64 - s) := by
 have e : (2 : Int) ^ (64 - s) = 2 * 2 ^ (63 - s) := by
  rw [show 64 - s = 63 - s + 1 by omega, Int.pow_succ, Int.mul_comm]
 rw [e, ediv_two (by decide)]
theorem shl_u64 {x : Int} {s : Nat} (h : s ≤ 64) : shl .u64 x (s : Int) = x * 2 ^ s % 18446744073709551616 := by
 unfold shl
 rw [show IntKind.u64.bits = 64 from rfl, Int.toNat_natCast, Nat.min_eq_left h, IntKind.wrap_u64]
theorem shr_u64 {x : Int} {s : Nat} (h : s ≤ 64) : shr .u64 x (s : Int) = x / 2 ^ s := by
 unfold shr
 rw [show IntKind.u64.bits = 64 from rfl, Int.toNat_natCast, Nat.min_eq_left h]
theorem back63 {s : Nat} (h : s < 64) : IntKind.u64.wrap (63 - (s : Int)) = ((63 - s : Nat) : Int) := by rw [u64w (by omega) (by omega)]; omega
theorem or_high {s : Nat} {x c : Int} (hx0 : 0 ≤ x) (hx : x < 18446744073709551616) (hm : x % 2 ^ s = 0) (hc0 : 0 ≤ c) (hc : c < 2 ^ s) (hc1 : c < 18446744073709551616) : Go.bits .or .u64 x c = x + c :=
 bits_join .u64 64 (by decide) wraps_u64 s x c hx0 hm hx hc0 hc hc1
theorem or_low {s : Nat} {x c : Int} (hx0 : 0 ≤ x) (hx : x < 18446744073709551616) (hm : x % 2 ^ s = 0) (hc0 : 0 ≤ c) (hc : c < 2 ^ s) (hc1 : c < 18446744073709551616) : Go.bits .or .u64 c x = c + x :=
 bits_join_low .u64 64 (by decide) wraps_u64 s c x hc0 hc hc1 hx0 hm hx
end Go.Proofs.Ytkjhjlnjkohlbaa.PR
end
