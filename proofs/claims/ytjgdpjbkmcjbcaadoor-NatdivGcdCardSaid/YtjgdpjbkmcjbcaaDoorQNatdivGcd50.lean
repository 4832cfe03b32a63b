/- What natdiv.Zeros computes: how many zero bits a natural has at its lower end. -/
import Derived.Test.YtjgdpjbkmcjbcaaDoorQNatdivGcd37
import Derived.Test.YtjgdpjbkmcjbcaaDoorQNatdivGcd36
import Derived.Test.YtjgdpjbkmcjbcaaDoorQNatdivGcd39
import Derived.Test.YtjgdpjbkmcjbcaaDoorQNatdivGcd40
import Derived.Test.YtjgdpjbkmcjbcaaDoorQNatdivGcd41
import Derived.Test.YtjgdpjbkmcjbcaaDoorQNatdivGcd42
import Derived.Test.YtjgdpjbkmcjbcaaDoorQNatdivGcd43
import Derived.Lib.TrailingZeros
namespace Go.Proofs.YtjgdpjbkmcjbcaaDoor.PD
open Go.RowKit Go.Proofs.YtjgdpjbkmcjbcaaDoorW.PrintWords Go.Proofs.YtjgdpjbkmcjbcaaDoorW.PrintLast Go.Proofs.YtjgdpjbkmcjbcaaDoorW.PrintMore Go.Proofs.YtjgdpjbkmcjbcaaDoor.Num
set_option linter.unusedVariables false
set_option linter.unusedSimpArgs false
def Odd2 (v : Int) (t : Nat) (m : Int) : Prop := v = 2 ^ t * (2 * m + 1)
theorem Odd2.uniq {v : Int} {t s : Nat} {m n : Int} (h : Odd2 v t m) (g : Odd2 v s n) : t = s ∧ m = n := by
  unfold Odd2 at h g
  have key : ∀ (a b : Nat) (x y : Int), a ≤ b → (2 : Int) ^ a * (2 * x + 1) = 2 ^ b * (2 * y + 1) → a = b ∧ x = y := by
    intro a b x y hab e
    obtain ⟨d, rfl⟩ : ∃ d, b = a + d := ⟨b - a, by omega⟩
    have hp := two_pow_pos a
    rw [Int.pow_add, Int.mul_assoc] at e
    have e2 := Int.eq_of_mul_eq_mul_left (by omega) e
    cases d with
    | zero =>
      rw [Int.pow_zero, Int.one_mul] at e2
      exact ⟨rfl, by omega⟩
    | succ d =>
      exfalso
      rw [Int.pow_succ] at e2
      generalize (2 : Int) ^ d = P at e2
      have : P * 2 * (2 * y + 1) = 2 * (P * (2 * y + 1)) := by grind
      omega
  rcases Nat.le_total t s with hts | hts
  · exact key t s m n hts (by rw [← h, ← g])
  · have := key s t n m hts (by rw [← h, ← g])
    exact ⟨this.1.symm, this.2.symm⟩
theorem tz_some {x : Int} (h0 : 0 < x) (h1 : x < 18446744073709551616) : ∃ (c : Nat) (m : Int), bits_TrailingZeros64.f x = some (c : Int) ∧ c < 64 ∧ 0 ≤ m ∧ Odd2 x c m := by
  obtain ⟨n, rfl⟩ := Int.eq_ofNat_of_zero_le (Int.le_of_lt h0)
  obtain ⟨m, hm, hc⟩ := Lib.ctzFrom_spec 64 n (by omega) (by omega)
  refine ⟨Lib.ctzFrom 64 n, m, ?_, hc, by omega, ?_⟩
  · unfold bits_TrailingZeros64.f
    rw [if_pos ⟨by omega, by omega⟩, Int.toNat_natCast]
    unfold Lib.ctz
    rw [if_neg (by omega)]
  · unfold Odd2
    have : ((n : Nat) : Int) = ((2 ^ Lib.ctzFrom 64 n * (2 * m + 1) : Nat) : Int) := congrArg _ hm
    rw [this]
    push_cast
    rfl
theorem low_zeros {l : List Int} {i : Nat} (hi : i ≤ l.length) (h : ∀ j, j < i → l.getD j 0 = 0) : V 18446744073709551616 l = 18446744073709551616 ^ i * V 18446744073709551616 (l.drop i) := by
  have a := V_split 18446744073709551616 l hi
  have b : V 18446744073709551616 (l.take i) = 0 := V_zeros 18446744073709551616 _ (fun j => by
    rw [getD_take]
    split
    · exact h j (by omega)
    · rfl)
  rw [a, b]
  omega
theorem odd_high {x Y : Int} {c : Nat} {m : Int} (hc : c < 64) (h : Odd2 x c m) (i : Nat) : Odd2 (18446744073709551616 ^ i * (x + 18446744073709551616 * Y)) (64 * i + c) (m + 2 ^ (63 - c) * Y) := by
  unfold Odd2 at h ⊢
  have e1 : (18446744073709551616 : Int) = 2 ^ 64 := by decide
  have e2 : (18446744073709551616 : Int) ^ i = 2 ^ (64 * i) := by rw [e1, ← Int.pow_mul]
  have e3 : (18446744073709551616 : Int) = 2 ^ c * (2 ^ (63 - c) * 2) := by
    rw [← Int.mul_assoc, ← Int.pow_add, ← Int.pow_succ, show (c + (63 - c)).succ = 64 by omega]
    rfl
  have e4 : 18446744073709551616 * Y = 2 ^ c * (2 ^ (63 - c) * 2) * Y := by rw [← e3]
  rw [e2, e4, h, Int.pow_add]
  grind
theorem zeros_loop (l : List Int) (hd : Dig 18446744073709551616 l) (hl : l.length ≤ 17592186044416) : ∀ (d i : Nat), l.length = i + d → (∀ j, j < i → l.getD j 0 = 0) →
    ∃ n : Nat, Ev (fun k => natdiv_Zeros.l0 k l (l.length : Int) (i : Int)) (n : Int) ∧ ((V 18446744073709551616 l = 0 ∧ n = 0) ∨ ∃ m, 0 ≤ m ∧ Odd2 (V 18446744073709551616 l) n m ∧ n < 64 * l.length)
  | 0, i, hi, hz => by
    refine ⟨0, Ev.step (f := fun _ => some 0) (fun k => ?_) (Ev.now _), .inl ⟨?_, rfl⟩⟩
    · rw [natdiv_Zeros.l0, if_neg (by omega)]
    · rw [low_zeros (i := i) (by omega) hz, V_drop_all _ _ (by omega)]
      omega
  | d + 1, i, hi, hz => by
    have hx := hd.getD B_pos i
    by_cases h0 : l.getD i 0 = 0
    · obtain ⟨n, e, h⟩ := zeros_loop l hd hl d (i + 1) (by omega) (fun j hj => by
        by_cases e : j = i
        · rw [e]; exact h0
        · exact hz j (by omega))
      refine ⟨n, Ev.step (f := fun k => natdiv_Zeros.l0 k l (l.length : Int) ((i + 1 : Nat) : Int)) (fun k => ?_) e, h⟩
      rw [natdiv_Zeros.l0, rd_nat, if_pos (by omega), if_pos (by omega), if_pos (by omega), if_pos h0, w64 (by omega) (by omega)]
      rfl
    · obtain ⟨c, m, hf, hc, hm, ho⟩ := tz_some (x := l.getD i 0) (by omega) hx.2
      have hv := low_zeros (l := l) (i := i) (by omega) hz
      rw [V_drop_succ 18446744073709551616 l i (by omega)] at hv
      have hodd := odd_high (Y := V 18446744073709551616 (l.drop (i + 1))) hc ho i
      rw [← hv] at hodd
      have hY := V_nonneg B_pos (hd.drop (i + 1))
      refine ⟨64 * i + c, Ev.step (f := fun _ => some ((64 * i + c : Nat) : Int)) (fun k => ?_) (Ev.now _), .inr ⟨_, ?_, hodd, by omega⟩⟩
      · rw [natdiv_Zeros.l0, rd_nat, if_pos (by omega), if_pos (by omega), if_pos (by omega), if_neg h0, hf]
        simp only [Option.bind_some]
        rw [w64 (x := 64 * (i : Int)) (by omega) (by omega), w64 (by omega) (by omega)]
        congr 1
      · have := Int.mul_nonneg (Int.le_of_lt (two_pow_pos (63 - c))) hY
        omega
theorem Nm.zeros {a v n} (h : Nm a v n) (hn : n ≤ 17592186044416) : ∃ t : Nat, Ev (fun k => natdiv_Zeros.f k a) (t : Int) ∧ ((v = 0 ∧ t = 0) ∨ ∃ m, 0 ≤ m ∧ Odd2 v t m ∧ t < 64 * n) := by
  have hl := h.len
  obtain ⟨t, e, ht⟩ := zeros_loop a h.dig (by omega) a.length 0 (by omega) (fun j hj => by omega)
  rw [h.val] at ht
  refine ⟨t, Ev.congr (fun k => rfl) e, ht.imp id ?_⟩
  rintro ⟨m, h0, h1, h2⟩
  exact ⟨m, h0, h1, by omega⟩
end Go.Proofs.YtjgdpjbkmcjbcaaDoor.PD
