/- Exact sums of binary64 numbers, what they leave, and the order of two. -/
import Derived.Test.YtfmdjhfnbiekaaaQFconvWhole36
import Derived.Test.YtfmdjhfnbiekaaaQFconvWhole50
import Derived.Test.YtfmdjhfnbiekaaaQFconvWhole37
import Derived.Test.YtfmdjhfnbiekaaaQFconvWhole38
import Derived.Test.YtfmdjhfnbiekaaaQFconvWhole40
import Derived.Test.YtfmdjhfnbiekaaaQFconvWhole43
import Derived.Test.YtfmdjhfnbiekaaaQFconvWhole42
namespace Go.Proofs.Ytfmdjhfnbiekaaa.PF
open Go.RowKit Go.Proofs.YtfmdjhfnbiekaaaW.PrintWords Go.Proofs.YtfmdjhfnbiekaaaW.PrintLast Go.Proofs.YtfmdjhfnbiekaaaW.PrintMore Go.Proofs.Ytfmdjhfnbiekaaa.Num Go.Proofs.Ytfmdjhfnbiekaaa.Flt
set_option linter.unusedVariables false
set_option linter.unusedSimpArgs false
theorem u64_of_wf {a : Int} (h : (Lit.int .u64 a).wf = true) : 0 ≤ a ∧ a < 18446744073709551616 := by
  simp [Lit.wf, IntKind.min, IntKind.max, IntKind.signed, IntKind.bits] at h
  omega
theorem rup_no (neg : Bool) (q mode : Int) : rup neg q false false mode = false := by unfold rup; cases neg <;> simp
theorem rnd_exact (neg : Bool) {m x : Int} (mode : Int) (h0 : 0 < m) (h1 : m < 9007199254740992) (hx : -1074 ≤ x) (hx' : x ≤ 971) (hn : 4503599627370496 ≤ m ∨ x = -1074) : rnd neg m x mode = (rput neg m x, 0) := by
  have e53 : (2 : Int) ^ 53 = 9007199254740992 := by decide
  have e52 : (2 : Int) ^ 52 = 4503599627370496 := by decide
  have hb : bitsOf m ≤ 53 := bitsOf_le (by omega) (n := 53) (by omega)
  have hb2 : 4503599627370496 ≤ m → 53 ≤ bitsOf m := by
    intro h
    have := bitsOf_ge (v := m) (n := 52) (by omega)
    omega
  have he : rexp (bitsOf m) x = x := by unfold rexp; split <;> omega
  have hq : qx m x x = (m, false, false) := by
    unfold qx
    rw [show x - x = 0 by omega, up2_neg (a := 0) (by omega), Int.mul_one, qhs_one]
  unfold rnd rfin
  rw [he, hq]
  simp only [rup_no]
  rw [if_neg (show ¬ (false = true) by decide), if_neg (show ¬ 9007199254740992 ≤ m by omega), if_neg (show ¬ 9007199254740992 ≤ m by omega), if_neg (show ¬ (4503599627370496 ≤ m ∧ 971 < x) by omega), if_neg (show ¬ (false = true ∨ false = true) by decide)]
theorem rput_parts (neg : Bool) {m e : Int} (h0 : 0 ≤ m) (h1 : m < 9007199254740992) (he : -1074 ≤ e) (he' : e ≤ 971) (hn : 4503599627370496 ≤ m ∨ e = -1074) :
    0 ≤ rput neg m e ∧ rput neg m e < 18446744073709551616 ∧ fneg (rput neg m e) = neg ∧ fex (rput neg m e) ≠ 2047 ∧ fman (rput neg m e) = m ∧ fxp (rput neg m e) = e := by
  have key : ∀ z : Int, (z = 0 ∧ neg = false) ∨ (z = 9223372036854775808 ∧ neg = true) → rzero neg = z := by
    intro z hz
    rcases hz with ⟨rfl, rfl⟩ | ⟨rfl, rfl⟩ <;> rfl
  obtain ⟨z, hz⟩ : ∃ z : Int, (z = 0 ∧ neg = false) ∨ (z = 9223372036854775808 ∧ neg = true) := by cases neg; exact ⟨0, .inl ⟨rfl, rfl⟩⟩; exact ⟨_, .inr ⟨rfl, rfl⟩⟩
  have hr := key z hz
  unfold rput
  rw [hr]
  have hfn : ∀ t : Int, (t < 9223372036854775808 ↔ z = 0) → fneg t = neg := by
    intro t ht
    unfold fneg
    rcases hz with ⟨rfl, rfl⟩ | ⟨rfl, rfl⟩
    · exact decide_eq_false (by have := ht.2 rfl; omega)
    · exact decide_eq_true (by
        by_cases c : t < 9223372036854775808
        · have := ht.1 c; omega
        · omega)
  have hz2 : z = 0 ∨ z = 9223372036854775808 := by omega
  by_cases c : m < 4503599627370496
  · rw [if_pos c]
    have ee : e = -1074 := by omega
    have e1 : fex (z + m) = 0 := by unfold fex; rcases hz2 with rfl | rfl <;> omega
    have e2 : ffr (z + m) = m := by unfold ffr; rcases hz2 with rfl | rfl <;> omega
    refine ⟨by omega, by omega, hfn _ (by omega), by omega, ?_, ?_⟩
    · unfold fman; rw [if_pos e1, e2]
    · unfold fxp; rw [if_pos e1, ee]
  · rw [if_neg c]
    have e1 : fex (z + (e + 1075) * 4503599627370496 + (m - 4503599627370496)) = e + 1075 := by unfold fex; rcases hz2 with rfl | rfl <;> omega
    have e2 : ffr (z + (e + 1075) * 4503599627370496 + (m - 4503599627370496)) = m - 4503599627370496 := by unfold ffr; rcases hz2 with rfl | rfl <;> omega
    refine ⟨by omega, by omega, hfn _ (by omega), by omega, ?_, ?_⟩
    · unfold fman; rw [if_neg (by omega), e2]; omega
    · unfold fxp; rw [if_neg (by omega), e1]; omega
theorem fin_shape {a : Int} (hf : fex a ≠ 2047) : -1074 ≤ fxp a ∧ fxp a ≤ 971 ∧ (4503599627370496 ≤ fman a ∨ fxp a = -1074) := by
  have ra := fex_range a
  have fa := ffr_range a
  unfold fxp fman
  split <;> omega
theorem rnd_few (neg : Bool) {N x : Int} (mode : Int) (h0 : 0 < N) (h1 : N < 9007199254740992) (hx : -1074 ≤ x) (hx' : x ≤ 900) : ∃ t k : Int, rnd neg N x mode = (t, 0) ∧ 0 ≤ t ∧ t < 18446744073709551616 ∧ fneg t = neg ∧ fex t ≠ 2047 ∧ 0 ≤ k ∧ fman t = N * up2 k ∧ fxp t = x - k := by
  have e53 : (2 : Int) ^ 53 = 9007199254740992 := by decide
  have hb : bitsOf N ≤ 53 := bitsOf_le (by omega) (n := 53) (by omega)
  have hb0 := bitsOf_pos h0
  have hr := rexp_ge (bitsOf N) x
  obtain ⟨k, hk⟩ : ∃ k : Nat, x - rexp (bitsOf N) x = k := ⟨(x - rexp (bitsOf N) x).toNat, by omega⟩
  have hs := rnd_shift neg h0 x k mode
  have hbs := bitsOf_mul_pow h0 k
  have hp := two_pow_pos k
  have hm0 : 0 < N * 2 ^ k := Int.mul_pos h0 hp
  have hm1 : N * 2 ^ k < 9007199254740992 := by
    have := bitsOf_lt_pow (v := N * 2 ^ k) (by omega)
    have h2 : (2 : Int) ^ (bitsOf (N * 2 ^ k)).toNat ≤ 2 ^ 53 := two_pow_mono (by omega)
    omega
  have hm2 : 4503599627370496 ≤ N * 2 ^ k ∨ x - k = -1074 := by
    rcases hr.2.2 with h | h
    · right; omega
    · left
      have h2 := bitsOf_low hm0
      have h3 : (2 : Int) ^ 52 ≤ 2 ^ ((bitsOf (N * 2 ^ k)).toNat - 1) := two_pow_mono (by omega)
      have e52 : (2 : Int) ^ 52 = 4503599627370496 := by decide
      omega
  have he := rnd_exact neg mode hm0 hm1 (x := x - k) (by omega) (by omega) hm2
  obtain ⟨p0, p1, p2, p3, p4, p5⟩ := rput_parts neg (Int.le_of_lt hm0) hm1 (e := x - k) (by omega) (by omega) hm2
  exact ⟨rput neg (N * 2 ^ k) (x - k), k, by rw [← hs, he], p0, p1, p2, p3, by omega, by rw [p4, up2_nat], p5⟩
def fflip (b : Int) : Int := if b < 9223372036854775808 then b + 9223372036854775808 else b - 9223372036854775808
theorem fflip_parts {b : Int} (b0 : 0 ≤ b) (b1 : b < 18446744073709551616) : fneg (fflip b) = !fneg b ∧ fex (fflip b) = fex b ∧ ffr (fflip b) = ffr b := by
  unfold fflip
  split
  · refine ⟨?_, by unfold fex; omega, by unfold ffr; omega⟩
    unfold fneg
    rw [decide_eq_true (by omega), decide_eq_false (by omega)]
    rfl
  · refine ⟨?_, by unfold fex; omega, by unfold ffr; omega⟩
    unfold fneg
    rw [decide_eq_false (by omega), decide_eq_true (by omega)]
    rfl
theorem fflip_man {b : Int} (b0 : 0 ≤ b) (b1 : b < 18446744073709551616) : fman (fflip b) = fman b ∧ fxp (fflip b) = fxp b ∧ fcls (fflip b) = fcls b := by
  obtain ⟨_, e1, e2⟩ := fflip_parts b0 b1
  unfold fman fxp fcls
  rw [e1, e2]
  exact ⟨rfl, rfl, rfl⟩
theorem addS_fin {a b : Int} (mode : Int) (ha : fcls a ≤ 1) (hb : fcls b ≤ 1) : addS a b mode = rsum (fneg a) (fman a) (fxp a) (fneg b) (fman b) (fxp b) mode := by
  unfold addS
  rw [if_neg (by omega), if_neg (by omega), if_neg (by omega), if_neg (by omega)]
end Go.Proofs.Ytfmdjhfnbiekaaa.PF
