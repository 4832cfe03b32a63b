/- Exact sums of binary64 numbers, what they leave, and the order of two. -/
import Derived.Test.YtfmdjhfnbiekaaaQFaddOrder26
import Derived.Test.YtfmdjhfnbiekaaaQFaddOrder28
import Derived.Test.YtfmdjhfnbiekaaaQFaddOrder41
import Derived.Test.YtfmdjhfnbiekaaaQFaddOrder29
import Derived.Test.YtfmdjhfnbiekaaaQFaddOrder30
import Derived.Test.YtfmdjhfnbiekaaaQFaddOrder33
import Derived.Test.YtfmdjhfnbiekaaaQFaddOrder36
import Derived.Test.YtfmdjhfnbiekaaaQFaddOrder40
import Derived.Test.YtfmdjhfnbiekaaaQFaddOrder35
namespace Go.Proofs.Ytfmdjhfnbiekaaa.PA
open Go.RowKit Go.Proofs.YtfmdjhfnbiekaaaW.PrintWords Go.Proofs.YtfmdjhfnbiekaaaW.PrintLast Go.Proofs.YtfmdjhfnbiekaaaW.PrintMore Go.Proofs.Ytfmdjhfnbiekaaa.Num Go.Proofs.Ytfmdjhfnbiekaaa.Flt
set_option linter.unusedVariables false
set_option linter.unusedSimpArgs false
theorem u64_of_wf {a : Int} (h : (Lit.int .u64 a).wf = true) : 0 ≤ a ∧ a < 18446744073709551616 := by
  simp [Lit.wf, IntKind.min, IntKind.max, IntKind.signed, IntKind.bits] at h
  omega
theorem addS_comm (a b mode : Int) : addS a b mode = addS b a mode := by
  unfold addS
  by_cases c3 : fcls a = 3 ∨ fcls b = 3
  · rw [if_pos c3, if_pos (show fcls b = 3 ∨ fcls a = 3 from c3.symm)]
  rw [if_neg c3, if_neg (show ¬ (fcls b = 3 ∨ fcls a = 3) from fun h => c3 h.symm)]
  by_cases c2 : fcls a = 2 ∧ fcls b = 2 ∧ a ≠ b
  · rw [if_pos c2, if_pos (show fcls b = 2 ∧ fcls a = 2 ∧ b ≠ a from ⟨c2.2.1, c2.1, fun h => c2.2.2 h.symm⟩)]
  rw [if_neg c2, if_neg (show ¬ (fcls b = 2 ∧ fcls a = 2 ∧ b ≠ a) from fun h => c2 ⟨h.2.1, h.1, fun e => h.2.2 e.symm⟩)]
  by_cases c4 : fcls a = 2
  · rw [if_pos c4]
    by_cases c5 : fcls b = 2
    · rw [if_pos c5]
      by_cases e : a = b
      · rw [e]
      · exact absurd ⟨c4, c5, e⟩ c2
    · rw [if_neg c5, if_pos c4]
  · rw [if_neg c4]
    by_cases c5 : fcls b = 2
    · rw [if_pos c5, if_pos c5]
    · rw [if_neg c5, if_neg c5, if_neg c4]
      by_cases hz : sv (fneg a) (up2 (fxp a - mn (fxp a) (fxp b)) * fman a) + sv (fneg b) (up2 (fxp b - mn (fxp a) (fxp b)) * fman b) = 0
      · have e : sv (fneg b) (up2 (fxp b - mn (fxp b) (fxp a)) * fman b) + sv (fneg a) (up2 (fxp a - mn (fxp b) (fxp a)) * fman a) = 0 := by rw [mn_comm (fxp b)]; omega
        unfold rsum
        rw [if_pos hz, if_pos e]
        by_cases d : fneg a = fneg b
        · rw [if_pos d, if_pos d.symm, d]
        · rw [if_neg d, if_neg (fun h => d h.symm)]
      · exact rsum_comm _ _ _ _ _ _ _ hz
theorem rup_no (neg : Bool) (q mode : Int) : rup neg q false false mode = false := by unfold rup; cases neg <;> simp
theorem rnd_exact (neg : Bool) {m x : Int} (mode : Int) (h0 : 0 < m) (h1 : m < 9007199254740992) (hx : -1074 ≤ x) (hx' : x ≤ 971) (hn : 4503599627370496 ≤ m ∨ x = -1074) : rnd neg m x mode = (rput neg m x, 0) := by
  have e53 : (2 : Int) ^ 53 = 9007199254740992 := by decide
  have e52 : (2 : Int) ^ 52 = 4503599627370496 := by decide
  have hb : bitsOf m ≤ 53 := bitsOf_le (by omega) (n := 53) (by omega)
  have hb2 : 4503599627370496 ≤ m → 53 ≤ bitsOf m := by
    intro h
    have := bitsOf_ge (v := m) (n := 52) (by omega)
    omega
  have he : rexp (bitsOf m) x = x := by unfold rexp; split <;> omega
  have hq : qx m x x = (m, false, false) := by
    unfold qx
    rw [show x - x = 0 by omega, up2_neg (a := 0) (by omega), Int.mul_one, qhs_one]
  unfold rnd rfin
  rw [he, hq]
  simp only [rup_no]
  rw [if_neg (show ¬ (false = true) by decide), if_neg (show ¬ 9007199254740992 ≤ m by omega), if_neg (show ¬ 9007199254740992 ≤ m by omega), if_neg (show ¬ (4503599627370496 ≤ m ∧ 971 < x) by omega), if_neg (show ¬ (false = true ∨ false = true) by decide)]
theorem put_back {a : Int} (h0 : 0 ≤ a) (h1 : a < 18446744073709551616) (hf : fex a ≠ 2047) : rput (fneg a) (fman a) (fxp a) = a := by
  have ra := fex_range a
  have fa := ffr_range a
  have ea : a % 9223372036854775808 = fex a * 4503599627370496 + ffr a := by unfold fex ffr; omega
  have hz : rzero (fneg a) = a - a % 9223372036854775808 := by
    unfold fneg rzero
    by_cases c : 9223372036854775808 ≤ a
    · rw [decide_eq_true c, if_pos rfl]; omega
    · rw [decide_eq_false c, if_neg (by decide)]; omega
  unfold rput
  rw [hz, ea]
  unfold fman fxp
  split <;> split <;> omega
theorem fin_shape {a : Int} (hf : fex a ≠ 2047) : -1074 ≤ fxp a ∧ fxp a ≤ 971 ∧ (4503599627370496 ≤ fman a ∨ fxp a = -1074) := by
  have ra := fex_range a
  have fa := ffr_range a
  unfold fxp fman
  split <;> omega
theorem rnd_self {a : Int} (h0 : 0 ≤ a) (h1 : a < 18446744073709551616) (hf : fex a ≠ 2047) (hm : 0 < fman a) (mode : Int) : rnd (fneg a) (fman a) (fxp a) mode = (a, 0) := by
  obtain ⟨s1, s2, s3⟩ := fin_shape hf
  rw [rnd_exact (fneg a) mode hm (fman_range a).2 s1 s2 s3, put_back h0 h1 hf]
def fflip (b : Int) : Int := if b < 9223372036854775808 then b + 9223372036854775808 else b - 9223372036854775808
theorem fflip_parts {b : Int} (b0 : 0 ≤ b) (b1 : b < 18446744073709551616) : fneg (fflip b) = !fneg b ∧ fex (fflip b) = fex b ∧ ffr (fflip b) = ffr b := by
  unfold fflip
  split
  · refine ⟨?_, by unfold fex; omega, by unfold ffr; omega⟩
    unfold fneg
    rw [decide_eq_true (by omega), decide_eq_false (by omega)]
    rfl
  · refine ⟨?_, by unfold fex; omega, by unfold ffr; omega⟩
    unfold fneg
    rw [decide_eq_false (by omega), decide_eq_true (by omega)]
    rfl
theorem fflip_man {b : Int} (b0 : 0 ≤ b) (b1 : b < 18446744073709551616) : fman (fflip b) = fman b ∧ fxp (fflip b) = fxp b ∧ fcls (fflip b) = fcls b := by
  obtain ⟨_, e1, e2⟩ := fflip_parts b0 b1
  unfold fman fxp fcls
  rw [e1, e2]
  exact ⟨rfl, rfl, rfl⟩
theorem addS_fin {a b : Int} (mode : Int) (ha : fcls a ≤ 1) (hb : fcls b ≤ 1) : addS a b mode = rsum (fneg a) (fman a) (fxp a) (fneg b) (fman b) (fxp b) mode := by
  unfold addS
  rw [if_neg (by omega), if_neg (by omega), if_neg (by omega), if_neg (by omega)]
theorem rsum_is (neg other s : Bool) (m p k q mode N x : Int) (hN : 0 < N) (h : sv neg (up2 (p - mn p q) * m) + sv other (up2 (q - mn p q) * k) = sv s (N * up2 (x - mn p q))) (hx : mn p q ≤ x) : rsum neg m p other k q mode = rnd s N x mode := by
  obtain ⟨j, hj⟩ : ∃ j : Nat, x - mn p q = j := ⟨(x - mn p q).toNat, by omega⟩
  have hs := rnd_shift s hN x j mode
  have hp : 0 < N * 2 ^ j := Int.mul_pos hN (two_pow_pos j)
  rw [hj, up2_nat] at h
  unfold rsum
  rw [h]
  have e1 : sv s (N * 2 ^ j) ≠ 0 ∧ (((sv s (N * 2 ^ j)).natAbs : Nat) : Int) = N * 2 ^ j ∧ decide (sv s (N * 2 ^ j) < 0) = s := by
    cases s
    · rw [sv_ff]
      exact ⟨by omega, by omega, decide_eq_false (by omega)⟩
    · rw [sv_tt]
      exact ⟨by omega, by omega, decide_eq_true (by omega)⟩
  rw [if_neg e1.1, e1.2.1, e1.2.2, show mn p q = x - j by omega, hs]
theorem alive7_ev : Ev (fun k => vernierlaw07_alive.f k) true := by
  have e := fadd_ev (a := 4607182418800017408) (b := 4607182418800017408) (by decide) (by decide) (by decide) (by decide) 0
  have hs : addS 4607182418800017408 4607182418800017408 0 = (4611686018427387904, 0) := by decide +kernel
  rw [hs] at e
  unfold vernierlaw07_alive.f
  exact Ev.bind e (Ev.congr (fun k => if_pos rfl) (Ev.now _))
end Go.Proofs.Ytfmdjhfnbiekaaa.PA
