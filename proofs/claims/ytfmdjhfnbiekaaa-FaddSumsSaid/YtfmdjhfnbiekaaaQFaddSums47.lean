/- Exact sums of binary64 numbers, what they leave, and the order of two. -/
import Derived.Test.YtfmdjhfnbiekaaaQFaddSums30
import Derived.Test.YtfmdjhfnbiekaaaQFaddSums32
import Derived.Test.YtfmdjhfnbiekaaaQFaddSums46
import Derived.Test.YtfmdjhfnbiekaaaQFaddSums33
import Derived.Test.YtfmdjhfnbiekaaaQFaddSums34
import Derived.Test.YtfmdjhfnbiekaaaQFaddSums38
import Derived.Test.YtfmdjhfnbiekaaaQFaddSums41
import Derived.Test.YtfmdjhfnbiekaaaQFaddSums45
import Derived.Test.YtfmdjhfnbiekaaaQFaddSums40
namespace Go.Proofs.Ytfmdjhfnbiekaaa.PA
open Go.RowKit Go.Proofs.YtfmdjhfnbiekaaaW.PrintWords Go.Proofs.YtfmdjhfnbiekaaaW.PrintLast Go.Proofs.YtfmdjhfnbiekaaaW.PrintMore Go.Proofs.Ytfmdjhfnbiekaaa.Num Go.Proofs.Ytfmdjhfnbiekaaa.Flt
set_option linter.unusedVariables false
set_option linter.unusedSimpArgs false
theorem rfin_range (neg : Bool) (e mode : Int) (p : Int × Bool × Bool) (tiny : Bool) (h0 : 0 ≤ p.1) (h1 : p.1 < 9007199254740992) (he : -1074 ≤ e) : 0 ≤ (rfin neg e p tiny mode).1 ∧ (rfin neg e p tiny mode).1 < 18446744073709551616 := by
  obtain ⟨q, h, s⟩ := p
  simp only at h0 h1
  unfold rfin
  simp only
  generalize rup neg q h s mode = u
  have hq : 0 ≤ (if u = true then q + 1 else q) ∧ (if u = true then q + 1 else q) ≤ 9007199254740992 := by split <;> omega
  generalize (if u = true then q + 1 else q) = q1 at *
  generalize (if h = true ∨ s = true then (if tiny = true then (24 : Int) else 16) else 0) = fl
  have hz := rzero_or neg
  have hi := rinf_range neg
  by_cases c : 9007199254740992 ≤ q1
  · simp only [if_pos c]
    by_cases d : 4503599627370496 ≤ q1 / 2 ∧ 971 < e + 1
    · rw [if_pos d]
      unfold rover
      split <;> (simp only; omega)
    · rw [if_neg d]
      simp only
      unfold rput
      split <;> omega
  · simp only [if_neg c]
    by_cases d : 4503599627370496 ≤ q1 ∧ 971 < e
    · rw [if_pos d]
      unfold rover
      split <;> (simp only; omega)
    · rw [if_neg d]
      simp only
      unfold rput
      split <;> omega
theorem rnd_range (neg : Bool) {N : Int} (x mode : Int) (hN : 0 < N) : 0 ≤ (rnd neg N x mode).1 ∧ (rnd neg N x mode).1 < 18446744073709551616 := by
  have hr := rexp_ge (bitsOf N) x
  have hq := qx_lt (N := N) (x := x) (e := rexp (bitsOf N) x) (by omega) (by omega)
  exact rfin_range neg _ mode _ _ hq.1 hq.2 (by omega)
theorem rsum_range (neg : Bool) (m p : Int) (other : Bool) (k q mode : Int) : 0 ≤ (rsum neg m p other k q mode).1 ∧ (rsum neg m p other k q mode).1 < 18446744073709551616 := by
  unfold rsum
  split
  · simp only
    split
    · have := rzero_or neg; omega
    · have := rzero_or (decide (mode = 4)); omega
  · exact rnd_range _ _ _ (by omega)
theorem addS_range {a b : Int} (mode : Int) (a0 : 0 ≤ a) (a1 : a < 18446744073709551616) (b0 : 0 ≤ b) (b1 : b < 18446744073709551616) : 0 ≤ (addS a b mode).1 ∧ (addS a b mode).1 < 18446744073709551616 := by
  unfold addS
  split
  · simp
  · split
    · simp
    · split
      · exact ⟨a0, a1⟩
      · split
        · exact ⟨b0, b1⟩
        · exact rsum_range _ _ _ _ _ _ _
theorem alive7_ev : Ev (fun k => vernierlaw07_alive.f k) true := by
  have e := fadd_ev (a := 4607182418800017408) (b := 4607182418800017408) (by decide) (by decide) (by decide) (by decide) 0
  have hs : addS 4607182418800017408 4607182418800017408 0 = (4611686018427387904, 0) := by decide +kernel
  rw [hs] at e
  unfold vernierlaw07_alive.f
  exact Ev.bind e (Ev.congr (fun k => if_pos rfl) (Ev.now _))
end Go.Proofs.Ytfmdjhfnbiekaaa.PA
