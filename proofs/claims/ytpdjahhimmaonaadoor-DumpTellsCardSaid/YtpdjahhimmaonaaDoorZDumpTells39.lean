/- What natdiv.Zeros computes: how many zero bits a natural has at its lower end. -/
import Derived.Test.YtpdjahhimmaonaaDoorZDumpTells38
import Derived.Lib.TrailingZeros
namespace Go.Proofs.YtpdjahhimmaonaaDoor.PD
open Go.RowKit Go.Proofs.YtpdjahhimmaonaaDoorW.PrintWords Go.Proofs.YtpdjahhimmaonaaDoorW.PrintLast Go.Proofs.YtpdjahhimmaonaaDoorW.PrintMore Go.Proofs.YtpdjahhimmaonaaDoor.Num
set_option linter.unusedVariables false
set_option linter.unusedSimpArgs false
def Odd2 (v : Int) (t : Nat) (m : Int) : Prop := v = 2 ^ t * (2 * m + 1)
theorem Odd2.uniq {v : Int} {t s : Nat} {m n : Int} (h : Odd2 v t m) (g : Odd2 v s n) : t = s ∧ m = n := by
  unfold Odd2 at h g
  have key : ∀ (a b : Nat) (x y : Int), a ≤ b → (2 : Int) ^ a * (2 * x + 1) = 2 ^ b * (2 * y + 1) → a = b ∧ x = y := by
    intro a b x y hab e
    obtain ⟨d, rfl⟩ : ∃ d, b = a + d := ⟨b - a, by omega⟩
    have hp := two_pow_pos a
    rw [Int.pow_add, Int.mul_assoc] at e
    have e2 := Int.eq_of_mul_eq_mul_left (by omega) e
    cases d with
    | zero =>
      rw [Int.pow_zero, Int.one_mul] at e2
      exact ⟨rfl, by omega⟩
    | succ d =>
      exfalso
      rw [Int.pow_succ] at e2
      generalize (2 : Int) ^ d = P at e2
      have : P * 2 * (2 * y + 1) = 2 * (P * (2 * y + 1)) := by grind
      omega
  rcases Nat.le_total t s with hts | hts
  · exact key t s m n hts (by rw [← h, ← g])
  · have := key s t n m hts (by rw [← h, ← g])
    exact ⟨this.1.symm, this.2.symm⟩
theorem tz_some {x : Int} (h0 : 0 < x) (h1 : x < 18446744073709551616) : ∃ (c : Nat) (m : Int), bits_TrailingZeros64.f x = some (c : Int) ∧ c < 64 ∧ 0 ≤ m ∧ Odd2 x c m := by
  obtain ⟨n, rfl⟩ := Int.eq_ofNat_of_zero_le (Int.le_of_lt h0)
  obtain ⟨m, hm, hc⟩ := Lib.ctzFrom_spec 64 n (by omega) (by omega)
  refine ⟨Lib.ctzFrom 64 n, m, ?_, hc, by omega, ?_⟩
  · unfold bits_TrailingZeros64.f
    rw [if_pos ⟨by omega, by omega⟩, Int.toNat_natCast]
    unfold Lib.ctz
    rw [if_neg (by omega)]
  · unfold Odd2
    have : ((n : Nat) : Int) = ((2 ^ Lib.ctzFrom 64 n * (2 * m + 1) : Nat) : Int) := congrArg _ hm
    rw [this]
    push_cast
    rfl
end Go.Proofs.YtpdjahhimmaonaaDoor.PD
