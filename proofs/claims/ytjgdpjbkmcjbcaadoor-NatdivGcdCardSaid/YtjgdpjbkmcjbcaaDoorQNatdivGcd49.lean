/- What natdiv.Sqrt computes: the root and what is left. -/
import Derived.Test.YtjgdpjbkmcjbcaaDoorQNatdivGcd28
import Derived.Test.YtjgdpjbkmcjbcaaDoorQNatdivGcd39
import Derived.Test.YtjgdpjbkmcjbcaaDoorQNatdivGcd40
import Derived.Test.YtjgdpjbkmcjbcaaDoorQNatdivGcd41
import Derived.Test.YtjgdpjbkmcjbcaaDoorQNatdivGcd42
import Derived.Test.YtjgdpjbkmcjbcaaDoorQNatdivGcd43
import Derived.Test.YtjgdpjbkmcjbcaaDoorQNatdivGcd46
namespace Go.Proofs.YtjgdpjbkmcjbcaaDoor.PD
open Go.RowKit Go.Proofs.YtjgdpjbkmcjbcaaDoorW.PrintWords Go.Proofs.YtjgdpjbkmcjbcaaDoorW.PrintLast Go.Proofs.YtjgdpjbkmcjbcaaDoor.Num
set_option linter.unusedVariables false
theorem root_le {R S v : Int} (hR : 0 ≤ R) (hS : 0 ≤ S) (h : R * R + S = v) : R ≤ v := by
  by_cases h0 : R = 0
  · subst h0
    omega
  · have : R * 1 ≤ R * R := Int.mul_le_mul_of_nonneg_left (by omega) hR
    omega
theorem root_step {R S v P : Int} (h : R * R + S = v) : (R + P) * (R + P) + (S - (2 * P * R + P * P)) = v := by grind
theorem root_less {R S v P : Int} (h : R * R + S = v) (hlt : S < 2 * P * R + P * P) : v < (R + P) * (R + P) := by
  have : (R + P) * (R + P) = R * R + (2 * P * R + P * P) := by grind
  omega
theorem sqrt_loop (v : Int) (n : Nat) (hn : n ≤ 100000) (hv : Aside0 (v < 18446744073709551616 ^ n)) : ∀ (j : Nat) (R S : Int), 0 ≤ R → 0 ≤ S → j ≤ 64 * n + 1 → Aside0 (R * R + S = v) → Aside0 (v < (R + 2 ^ j) * (R + 2 ^ j)) →
    ∃ q r, Ev (fun k => natdiv_Sqrt.l0 k (dg 18446744073709551616 R) (dg 18446744073709551616 S) ((j : Int) - 1)) (dg 18446744073709551616 q, dg 18446744073709551616 r) ∧ 0 ≤ q ∧ 0 ≤ r ∧ q * q + r = v ∧ v < (q + 1) * (q + 1)
  | 0, R, S, hR, hS, hj, hI, hU => by
    refine ⟨R, S, ?_, hR, hS, hI.out, by have := hU.out; rwa [Int.pow_zero] at this⟩
    refine Ev.step (f := fun _ => some (dg 18446744073709551616 R, dg 18446744073709551616 S)) (fun k => ?_) (Ev.now _)
    simp only [natdiv_Sqrt.l0]
    rw [if_neg (by omega)]
  | j + 1, R, S, hR, hS, hj, hI, hU => by
    have hle := root_le hR hS hI.out
    have hSle : S ≤ v := by
      have := hI.out
      have := Int.mul_nonneg hR hR
      omega
    have nR : Nm (dg 18446744073709551616 R) R n := Nm.dg hR (Int.lt_of_le_of_lt hle hv.out)
    have nS : Nm (dg 18446744073709551616 S) S n := Nm.dg hS (Int.lt_of_le_of_lt hSle hv.out)
    have hP := two_pow_pos j
    have e2 : (2 : Int) ^ (j + 1) = 2 * 2 ^ j := by rw [Int.pow_succ, Int.mul_comm]
    have e3 : (2 : Int) ^ (2 * j) = 2 ^ j * 2 ^ j := by rw [← Int.pow_add]; congr 1; omega
    obtain ⟨s1, m1⟩ := nR.shl (j + 1) (by omega) (by omega)
    obtain ⟨s2, m2⟩ := bit_ev (2 * j) (by omega)
    obtain ⟨s3, m3⟩ := m1.add 10000000 m2 (by omega) (by omega) (by omega)
    have s4 := m3.cmp nS (by omega) (by omega)
    obtain ⟨s5, m5⟩ := bit_ev j (by omega)
    obtain ⟨s6, m6⟩ := nR.add 10000000 m5 (by omega) (by omega) (by omega)
    rw [e2, e3] at s3 m3 s4
    have w1 : Aside0 (wrap64 (((j + 1 : Nat) : Int) - 1 + 1) = ((j + 1 : Nat) : Int)) := ⟨by rw [w64 (by omega) (by omega)]; omega⟩
    have w2 : Aside0 (wrap64 (2 * (((j + 1 : Nat) : Int) - 1)) = ((2 * j : Nat) : Int)) := ⟨by rw [w64 (by omega) (by omega)]; omega⟩
    have w3 : Aside0 (wrap64 (((j + 1 : Nat) : Int) - 1 - 1) = (j : Int) - 1) := ⟨by rw [w64 (by omega) (by omega)]; omega⟩
    have w4 : Aside0 (((j + 1 : Nat) : Int) - 1 = (j : Int)) := ⟨by omega⟩
    by_cases hc : 2 * 2 ^ j * R + 2 ^ j * 2 ^ j ≤ S
    · obtain ⟨s7, m7⟩ := nS.sub_le m3 hc (by omega) (by omega)
      obtain ⟨q, r, h1, h2, h3, h4, h5⟩ := sqrt_loop v n hn hv j (R + 2 ^ j) (S - (2 * 2 ^ j * R + 2 ^ j * 2 ^ j)) (by omega) (by omega) (by omega) ⟨root_step hI.out⟩
        ⟨by have := hU.out; rw [e2] at this; rwa [show R + 2 ^ j + 2 ^ j = R + 2 * 2 ^ j by omega]⟩
      refine ⟨q, r, ?_, h2, h3, h4, h5⟩
      refine Ev.step (fun k => by
        simp only [natdiv_Sqrt.l0]
        rw [if_pos (by omega), w1.out, w2.out, w3.out, w4.out]) ?_
      rw [e2] at s1
      refine Ev.bind s1 (Ev.bind s2 ?_)
      rw [e3]
      refine Ev.bind s3 (Ev.bind s4 (Ev.congr (fun k => if_pos ?_) (Ev.bind s7 (Ev.bind s5 (Ev.bind s6 h1)))))
      have := sgn_pos_iff (x := 2 * 2 ^ j * R + 2 ^ j * 2 ^ j - S)
      omega
    · obtain ⟨q, r, h1, h2, h3, h4, h5⟩ := sqrt_loop v n hn hv j R S hR hS (by omega) hI ⟨root_less hI.out (by omega)⟩
      refine ⟨q, r, ?_, h2, h3, h4, h5⟩
      refine Ev.step (fun k => by
        simp only [natdiv_Sqrt.l0]
        rw [if_pos (by omega), w1.out, w2.out, w3.out, w4.out]) ?_
      rw [e2] at s1
      refine Ev.bind s1 (Ev.bind s2 ?_)
      rw [e3]
      refine Ev.bind s3 (Ev.bind s4 (Ev.congr (fun k => if_neg ?_) h1))
      have := sgn_pos_iff (x := 2 * 2 ^ j * R + 2 ^ j * 2 ^ j - S)
      omega
theorem sqrt_ev {a : List Int} {v : Int} {n : Nat} (h : Nm a v n) (hn : n ≤ 100000) :
    ∃ q r, Ev (fun k => natdiv_Sqrt.f k a) (dg 18446744073709551616 q, dg 18446744073709551616 r) ∧ 0 ≤ q ∧ 0 ≤ r ∧ q * q + r = v ∧ v < (q + 1) * (q + 1) := by
  have h0 := h.nonneg
  have hb0 := bitsOf_nonneg v
  have hb1 : bitsOf v ≤ ((64 * n : Nat) : Int) := by
    refine bitsOf_le h0 ?_
    have := h.lt
    have e64 : (18446744073709551616 : Int) = 2 ^ 64 := by decide
    rwa [e64, ← Int.pow_mul] at this
  obtain ⟨b, hb⟩ := Int.eq_ofNat_of_zero_le hb0
  have hvb : v < 2 ^ b := by
    have := bitsOf_lt_pow h0
    rw [hb] at this
    simpa using this
  obtain ⟨q, r, h1, h2, h3, h4, h5⟩ := sqrt_loop v n hn ⟨h.lt⟩ ((b + 1) / 2 + 1) 0 v (by omega) h0 (by omega) ⟨by omega⟩ ⟨by
    rw [Int.zero_add, ← Int.pow_add]
    exact Int.lt_of_lt_of_le hvb (two_pow_mono (by omega))⟩
  refine ⟨q, r, ?_, h2, h3, h4, h5⟩
  unfold natdiv_Sqrt.f
  refine Ev.bind (h.norm (by omega)).1 (Ev.bind (h.bits (by omega)) ?_)
  have e : wrap64 (Int.tdiv (wrap64 (bitsOf v + 1)) 2) = (((b + 1) / 2 + 1 : Nat) : Int) - 1 := by
    rw [hb, w64 (x := (b : Int) + 1) (by omega) (by omega), Int.tdiv_eq_ediv_of_nonneg (by omega), w64 (by omega) (by omega)]
    omega
  rw [e]
  exact h1
theorem root_uniq {q r v : Int} (hq : 0 ≤ q) (hr : 0 ≤ r) (h : q * q + r = 10) (h2 : 10 < (q + 1) * (q + 1)) : q = 3 ∧ r = 1 := by
  have hle : q ≤ 10 := root_le hq hr h
  have : q = 0 ∨ q = 1 ∨ q = 2 ∨ q = 3 ∨ q = 4 ∨ q = 5 ∨ q = 6 ∨ q = 7 ∨ q = 8 ∨ q = 9 ∨ q = 10 := by omega
  rcases this with e | e | e | e | e | e | e | e | e | e | e <;> subst e <;> omega
theorem alive2_ev : Ev (fun k => vernierlaw02_alive.f k) true := by
  obtain ⟨q, r, h1, h2, h3, h4, h5⟩ := sqrt_ev (Nm.one (x := 10) (n := 1) (by omega) (by omega) (by omega)) (by omega)
  obtain ⟨rfl, rfl⟩ := root_uniq (v := 10) h2 h3 h4 h5
  have d3 : dg 18446744073709551616 3 = [3] := dg_one one_lt_B (by decide) (by decide)
  have d1 : dg 18446744073709551616 1 = [1] := dg_one one_lt_B (by decide) (by decide)
  rw [d3, d1] at h1
  unfold vernierlaw02_alive.f
  refine Ev.bind h1 ?_
  exact Ev.congr (fun k => (if_pos rfl).trans ((if_pos (by decide)).trans ((if_pos rfl).trans ((if_pos rfl).trans (if_pos (by decide)))))) (Ev.now true)
end Go.Proofs.YtjgdpjbkmcjbcaaDoor.PD
